/- Lemmas of a small executor for the model, and contracts of functions, used for the law that this claim proves. No condition. -/
import Derived.Test.YtblcjjlggfpehaaBY1
set_option linter.unusedSimpArgs false
set_option linter.unusedVariables false
set_option maxRecDepth 100000
namespace Go.Vx.L53
open Go Go.Proofs
structure DS where
  k : Nat
  hi : Int
  lo : Int
  q : Int
  r : Int
structure DInv (P c : Int) (s : DS) : Prop where
  k : s.k ≤ 128
  hi : 0 ≤ s.hi ∧ s.hi < 18446744073709551616
  lo : 0 ≤ s.lo ∧ s.lo < 18446744073709551616
  q : 0 ≤ s.q ∧ s.q ≤ 4505852553647320
  r : 0 ≤ s.r ∧ s.r < c
  e : P * 2 ^ s.k = (c * s.q + s.r) * 340282366920938463463374607431768211456 + s.hi * 18446744073709551616 + s.lo
theorem q_bd {P c : Int} (h1 : P ≤ 4503599627370496000000000) (h0 : 0 ≤ P) (hc : 999500000 ≤ c) {k : Nat} (hk : k ≤ 128) {q r M : Int} (hr : 0 ≤ r) (hM : 0 ≤ M) (hq : 0 ≤ q)
    (e : P * 2 ^ k = (c * q + r) * 340282366920938463463374607431768211456 + M) : q ≤ 4505852553647320 := by
  have h2 : (2:Int) ^ k ≤ 2 ^ 128 := by
    have := Nat.pow_le_pow_right (show 0 < 2 by decide) hk
    exact_mod_cast this
  have h3 : P * 2 ^ k ≤ P * 2 ^ 128 := Int.mul_le_mul_of_nonneg_left h2 h0
  have h4 : (2:Int) ^ 128 = 340282366920938463463374607431768211456 := by decide +kernel
  rw [h4] at h3
  have h5 : 999500000 * q ≤ c * q := Int.mul_le_mul_of_nonneg_right hc hq
  omega
theorem dstep1 {P c : Int} (h1 : P ≤ 4503599627370496000000000) (h0 : 0 ≤ P) (hc : 999500000 ≤ c) {s : DS} (h : DInv P c s) (hk : s.k < 128) (hr : c ≤ s.r * 2 + s.hi / 9223372036854775808) :
    DInv P c ⟨s.k + 1, s.hi * 2 % 18446744073709551616 + s.lo / 9223372036854775808, s.lo * 2 % 18446744073709551616, s.q * 2 + 1, s.r * 2 + s.hi / 9223372036854775808 - c⟩ := by
  obtain ⟨k, hi, lo, q, r⟩ := s
  obtain ⟨a1, a2, a3, a4, a5, a6⟩ := h
  simp only at *
  have e2 : P * 2 ^ (k + 1) = (c * (q * 2 + 1) + (r * 2 + hi / 9223372036854775808 - c)) * 340282366920938463463374607431768211456 + (hi * 2 % 18446744073709551616 + lo / 9223372036854775808) * 18446744073709551616 + lo * 2 % 18446744073709551616 := by
    have : P * 2 ^ (k + 1) = P * 2 ^ k * 2 := by rw [Int.pow_succ, Int.mul_assoc]
    rw [this, a6]
    have : c * (q * 2 + 1) = c * q * 2 + c := by rw [Int.mul_add, Int.mul_one, Int.mul_assoc]
    rw [this]
    omega
  have e3 : (r * 2 + hi / 9223372036854775808 - c) ≥ 0 := by omega
  refine ⟨by simp only; omega, by simp only; omega, by simp only; omega, ⟨by simp only; omega, q_bd h1 h0 hc (show k + 1 ≤ 128 by omega) e3 (q := q * 2 + 1) (M := (hi * 2 % 18446744073709551616 + lo / 9223372036854775808) * 18446744073709551616 + lo * 2 % 18446744073709551616) (by omega) (by omega) (by rw [e2]; omega)⟩, by simp only; omega, e2⟩
theorem dstep0 {P c : Int} (h1 : P ≤ 4503599627370496000000000) (h0 : 0 ≤ P) (hc : 999500000 ≤ c) {s : DS} (h : DInv P c s) (hk : s.k < 128) (hr : s.r * 2 + s.hi / 9223372036854775808 < c) :
    DInv P c ⟨s.k + 1, s.hi * 2 % 18446744073709551616 + s.lo / 9223372036854775808, s.lo * 2 % 18446744073709551616, s.q * 2, s.r * 2 + s.hi / 9223372036854775808⟩ := by
  obtain ⟨k, hi, lo, q, r⟩ := s
  obtain ⟨a1, a2, a3, a4, a5, a6⟩ := h
  simp only at *
  have e2 : P * 2 ^ (k + 1) = (c * (q * 2) + (r * 2 + hi / 9223372036854775808)) * 340282366920938463463374607431768211456 + (hi * 2 % 18446744073709551616 + lo / 9223372036854775808) * 18446744073709551616 + lo * 2 % 18446744073709551616 := by
    have : P * 2 ^ (k + 1) = P * 2 ^ k * 2 := by rw [Int.pow_succ, Int.mul_assoc]
    rw [this, a6]
    have : c * (q * 2) = c * q * 2 := by rw [Int.mul_assoc]
    rw [this]
    omega
  refine ⟨by simp only; omega, by simp only; omega, by simp only; omega, ⟨by simp only; omega, q_bd h1 h0 hc (show k + 1 ≤ 128 by omega) (r := r * 2 + hi / 9223372036854775808) (q := q * 2) (by omega) (M := (hi * 2 % 18446744073709551616 + lo / 9223372036854775808) * 18446744073709551616 + lo * 2 % 18446744073709551616) (by omega) (by omega) (by rw [e2]; omega)⟩, by simp only; omega, e2⟩
theorem dend {P c : Int} (hc : 999500000 ≤ c) {s : DS} (h : DInv P c s) (hk : s.k = 128) : s.q = P / c ∧ s.r = P % c := by
  obtain ⟨k, hi, lo, q, r⟩ := s
  obtain ⟨a1, a2, a3, a4, a5, a6⟩ := h
  simp only at *
  subst hk
  have h4 : (2:Int) ^ 128 = 340282366920938463463374607431768211456 := by decide +kernel
  rw [h4] at a6
  have e : P = r + c * q := by omega
  subst e
  refine ⟨?_, ?_⟩
  · rw [Int.add_mul_ediv_left _ _ (by omega), Int.ediv_eq_zero_of_lt a5.1 a5.2, Int.zero_add]
  · rw [Int.add_mul_emod_self_left, Int.emod_eq_of_lt a5.1 a5.2]
set_option maxHeartbeats 1000000 in
theorem rdivide_ok (P c : Int) (h0 : 0 ≤ P) (h1 : P ≤ 4503599627370496000000000) (hc : 999500000 ≤ c) (hc2 : c ≤ 4611686018427387904) :
    Runs Try.prog 70 [.val (.int .u64 (P / 18446744073709551616)), .val (.int .u64 (P % 18446744073709551616)), .val (.int .u64 c)] [] (Det (.tup [.val (.int .u64 0), .val (.int .u64 (P / c)), .val (.int .u64 (P % c))]) []) := by
  refine Runs.mk tabOK Try.call70 Try.func70 rfl Try.ntmps70 Try.results70 rfl ?_
  (intro Q h; refine h ?_; clear h Q; repeat (refine seq_go ?_; intro Q h; refine h ?_; clear h Q))
  refine loop_inv (σ := DS) (fun x => DInv P c x) (fun x => ⟨[(0, .val (.int .u64 x.hi)), (1, .val (.int .u64 x.lo)), (2, .val (.int .u64 c)), (9, .val (.int .u64 0)), (10, .val (.int .u64 x.q)), (11, .val (.int .u64 x.r)), (12, .val (.int .i64 x.k))], []⟩) (fun x => 128 - x.k) (⟨0, P / 18446744073709551616, P % 18446744073709551616, 0, 0⟩) ?_ ?_ ?_
  · refine ⟨by simp only; omega, by simp only; omega, by simp only; omega, by simp only; omega, by simp only; omega, by simp only; omega⟩
  · (apply le_mk []; (focus (iterate 2 (all_goals (repeat' (first | exact trivial | (intro Q h; refine h ?_; clear h Q) | refine And.intro ?_ ?_ | exact sub_refl_val _ _ ))))); (any_goals (apply okIx_mk; rfl)))
  intro s hs
  have ⟨a1, a2, a3, a4, a5, a6⟩ := hs
  have w1 : (2:Int) ^ (min (Int.toNat 63) IntKind.u64.bits) = 9223372036854775808 := by decide +kernel
  have w2 : (2:Int) ^ (min (Int.toNat 1) IntKind.u64.bits) = 2 := by decide +kernel
  have w3 : IntKind.u64.wrap (0 * 2) = 0 := by decide +kernel
  have w4 : IntKind.u64.wrap ((BitVec.ofInt IntKind.u64.bits 0 ||| BitVec.ofInt IntKind.u64.bits 0).toNat : Int) = 0 := by decide +kernel
  have v1 : s.hi.fdiv 9223372036854775808 = s.hi / 9223372036854775808 := Int.fdiv_eq_ediv_of_nonneg _ (by decide)
  have v2 : s.lo.fdiv 9223372036854775808 = s.lo / 9223372036854775808 := Int.fdiv_eq_ediv_of_nonneg _ (by decide)
  have v3 : s.r.fdiv 9223372036854775808 = 0 := by rw [Int.fdiv_eq_ediv_of_nonneg _ (by decide)]; omega
  have v4 : s.q.fdiv 9223372036854775808 = 0 := by rw [Int.fdiv_eq_ediv_of_nonneg _ (by decide)]; omega
  have u1 : IntKind.u64.wrap (s.r * 2) = s.r * 2 := by rw [uw]; omega
  have u2 : IntKind.u64.wrap (s.q * 2) = s.q * 2 := by rw [uw]; omega
  have u3 : IntKind.u64.wrap (s.hi * 2) = s.hi * 2 % 18446744073709551616 := by rw [uw]
  have u4 : IntKind.u64.wrap (s.lo * 2) = s.lo * 2 % 18446744073709551616 := by rw [uw]
  have o1 : IntKind.u64.wrap ((BitVec.ofInt IntKind.u64.bits (s.r * 2) ||| BitVec.ofInt IntKind.u64.bits (s.hi / 9223372036854775808)).toNat : Int) = s.r * 2 + s.hi / 9223372036854775808 :=
    or_add 1 (by decide) (by omega) (by omega) (by omega) (by omega) (by omega)
  have o2 : IntKind.u64.wrap ((BitVec.ofInt IntKind.u64.bits (s.q * 2) ||| BitVec.ofInt IntKind.u64.bits 1).toNat : Int) = s.q * 2 + 1 :=
    or_add 1 (by decide) (by omega) (by omega) (by omega) (by omega) (by omega)
  have o3 : IntKind.u64.wrap ((BitVec.ofInt IntKind.u64.bits (s.hi * 2 % 18446744073709551616) ||| BitVec.ofInt IntKind.u64.bits (s.lo / 9223372036854775808)).toNat : Int) = s.hi * 2 % 18446744073709551616 + s.lo / 9223372036854775808 :=
    or_add 1 (by decide) (by omega) (by omega) (by omega) (by omega) (by omega)
  (repeat' (first
    | (intro Q h; refine h ?_; clear h Q)
    | (refine bcase_mk (fun hb => ?_) (fun hb => ?_) <;> (try simp only [nS, nT, eq_self, reduceCtorEq] at hb))
    | refine seq_go ?_
    | refine And.intro (by first | omega | ((try simp only [wS]); omega) | rfl | decide) ?_
    | (apply ret_mk []; (focus (iterate 2 (all_goals (repeat' (first | exact subL_nil | exact trivial | refine And.intro ?_ ?_ | refine subL_cons ?_ ?_ | refine sub_tup ?_ | exact sub_refl_val _ _ | refine sub_int ?_ ))))); (any_goals (apply okIx_mk; rfl)))
    ))
  · exfalso; rw [w1, v3] at hb; omega
  · simp only [w1, w2, v1, u1, o1] at hb
    have hb : c ≤ s.r * 2 + s.hi / 9223372036854775808 := hb
    have d1 : IntKind.u64.wrap (s.r * 2 + s.hi / 9223372036854775808 - c) = s.r * 2 + s.hi / 9223372036854775808 - c := by rw [uw]; omega
    refine next_sub (Subtype.mk ⟨s.k + 1, s.hi * 2 % 18446744073709551616 + s.lo / 9223372036854775808, s.lo * 2 % 18446744073709551616, s.q * 2 + 1, s.r * 2 + s.hi / 9223372036854775808 - c⟩ (dstep1 h1 h0 hc hs (by omega) hb)) ?_ (by simp only; omega)
    (apply le_mk []; (focus (iterate 2 (all_goals (repeat' (first | exact trivial | (intro Q h; refine h ?_; clear h Q) | refine And.intro ?_ ?_ | exact sub_refl_val _ _ | ((first | refine sub_int ?_ ); first | with_reducible rfl | omega | ((try simp only [wS]); omega) | rfl) | refine sub_int ?_ ))))); (any_goals (apply okIx_mk; rfl)))
    all_goals (simp only [w1, w2, w3, w4, v1, v2, v4, u1, u2, u3, u4, o1, o2, o3, d1])
  · simp only [w1, w2, v1, u1, o1] at hb
    have hb : s.r * 2 + s.hi / 9223372036854775808 < c := by omega
    refine next_sub (Subtype.mk ⟨s.k + 1, s.hi * 2 % 18446744073709551616 + s.lo / 9223372036854775808, s.lo * 2 % 18446744073709551616, s.q * 2, s.r * 2 + s.hi / 9223372036854775808⟩ (dstep0 h1 h0 hc hs (by omega) hb)) ?_ (by simp only; omega)
    (apply le_mk []; (focus (iterate 2 (all_goals (repeat' (first | exact trivial | (intro Q h; refine h ?_; clear h Q) | refine And.intro ?_ ?_ | exact sub_refl_val _ _ | ((first | refine sub_int ?_ ); first | with_reducible rfl | omega | ((try simp only [wS]); omega) | rfl) | (refine And.left (b := True) ⟨?_, True.intro⟩; assumption) | refine sub_int ?_ ))))); (any_goals (apply okIx_mk; rfl)))
    all_goals (simp only [w1, w2, w3, w4, v1, v2, v4, u1, u2, u3, u4, o1, o2, o3])
  · exact (dend hc hs (by omega)).1
  · exact (dend hc hs (by omega)).2
set_option maxHeartbeats 1000000 in
theorem rmuldiv_neg (d b c : Int) (h0 : 0 ≤ d) (h1 : d ≤ 4503599627370496) (h2 : 0 ≤ b) (h3 : b ≤ 1000000000) (c0 : 999500000 ≤ c) (c1 : c ≤ 1000500000) :
    Runs Try.prog 55 [.val (.int .i64 (-d)), .val (.int .i64 b), .val (.int .i64 c)] [] (Det (.tup [.val (.int .i64 (-(cdiv d b c))), .sb true]) []) := by
  obtain ⟨p0, p1⟩ := prod_bd d b h0 h1 h2 h3
  have m1 := product_ok d b h0 h1 h2 h3
  have m2 := rdivide_ok (d * b) c p0 p1 c0 (by omega)
  have s1 := rsize_n d h0 (by omega)
  have s2 := rsize_pos b h2 (by omega)
  have s3 := rsize_pos c (by omega) (by omega)
  obtain ⟨k0, k1⟩ := quo_bd p0 p1 c0
  have k2 := Int.emod_nonneg (d * b) (show c ≠ 0 by omega)
  have hd0 : d = 0 → d * b / c = 0 ∧ d * b % c = 0 := by rintro rfl; simp
  have hneg := neg_of (d := d) h2 (show 0 < c by omega)
  unfold cdiv
  generalize d * b = P at *
  have hcp : 0 < c := by omega
  by_cases hr : P % c = 0
  · rw [cdiv_zero hcp hr]
    rw [hr] at m2
    generalize P / c = q at *
    have s4 := rsigned_ok q k0 (by omega)
    refine Runs.mk tabOK Try.call55 Try.func55 rfl Try.ntmps55 Try.results55 rfl ?_
    (repeat' (first
    | (intro Q h; refine h ?_; clear h Q)
    | (refine bcase_mk (fun hb => ?_) (fun hb => ?_) <;> (try simp only [nS, nT, eq_self, reduceCtorEq] at hb))
    | refine seq_go ?_
    | ((first | apply call0 (s1) ); (focus ((iterate 2 (all_goals (repeat' (first | exact subL_nil | refine subL_cons ?_ ?_ | exact sub_refl_val _ _ | refine sub_int ?_ )))); done)))
    | ((first | apply call0 (s2) ); (focus ((iterate 2 (all_goals (repeat' (first | exact subL_nil | refine subL_cons ?_ ?_ | exact sub_refl_val _ _ | refine sub_int ?_ )))); done)))
    | ((first | apply call0 (s3) ); (focus ((iterate 2 (all_goals (repeat' (first | exact subL_nil | refine subL_cons ?_ ?_ | exact sub_refl_val _ _ )))); done)))
    | ((first | apply call0 (m1) ); (focus ((iterate 2 (all_goals (repeat' (first | exact subL_nil | refine subL_cons ?_ ?_ | exact sub_refl_val _ _ )))); done)))
    | ((first | apply call0 (m2) ); (focus ((iterate 2 (all_goals (repeat' (first | exact subL_nil | refine subL_cons ?_ ?_ | exact sub_refl_val _ _ )))); done)))
    | ((first | apply call0 (s4 _) ); (focus (iterate 2 (all_goals (repeat' (first | exact subL_nil | refine subL_cons ?_ ?_ | exact sub_refl_val _ _ | exact sub_sb rfl | ((first | refine sub_int ?_ ); first | with_reducible rfl | omega | ((try simp only [wS]); omega) | rfl) ))))))
    | (apply ret_mk []; (focus (iterate 2 (all_goals (repeat' (first | exact subL_nil | exact trivial | refine And.intro ?_ ?_ | refine subL_cons ?_ ?_ | refine sub_tup ?_ | exact sub_sb rfl | ((first | refine sub_int ?_ ); first | with_reducible rfl | omega | ((try simp only [wS]); omega) | rfl) | refine sub_int ?_ | refine sub_sbl ?_ ))))); (any_goals (apply okIx_mk; rfl)))
    | omega))
    all_goals
      rw [hneg]
      by_cases hd : 0 < d
      · rw [decide_eq_true hd]; rfl
      · have := (hd0 (by omega)).1; subst this; rw [decide_eq_false hd]; rfl
  · rw [cdiv_pos hcp hr]
    generalize P % c = r at *
    generalize P / c = q at *
    have hd : 0 < d := by
      rcases Int.lt_or_le 0 d with h | h
      · exact h
      · exact absurd (hd0 (by omega)).2 hr
    rw [decide_eq_true hd] at hneg
    have s4 := rsigned_ok (IntKind.u64.wrap (q + 1)) (by rw [uw]; omega) (by rw [uw]; omega)
    have u5 : IntKind.u64.wrap (q + 1) = q + 1 := by rw [uw]; omega
    refine Runs.mk tabOK Try.call55 Try.func55 rfl Try.ntmps55 Try.results55 rfl ?_
    (repeat' (first
    | (intro Q h; refine h ?_; clear h Q)
    | (refine bcase_mk (fun hb => ?_) (fun hb => ?_) <;> (try simp only [nS, nT, eq_self, reduceCtorEq] at hb))
    | refine seq_go ?_
    | ((first | apply call0 (s1) ); (focus ((iterate 2 (all_goals (repeat' (first | exact subL_nil | refine subL_cons ?_ ?_ | exact sub_refl_val _ _ | refine sub_int ?_ )))); done)))
    | ((first | apply call0 (s2) ); (focus ((iterate 2 (all_goals (repeat' (first | exact subL_nil | refine subL_cons ?_ ?_ | exact sub_refl_val _ _ | refine sub_int ?_ )))); done)))
    | ((first | apply call0 (s3) ); (focus ((iterate 2 (all_goals (repeat' (first | exact subL_nil | refine subL_cons ?_ ?_ | exact sub_refl_val _ _ )))); done)))
    | ((first | apply call0 (m1) ); (focus ((iterate 2 (all_goals (repeat' (first | exact subL_nil | refine subL_cons ?_ ?_ | exact sub_refl_val _ _ )))); done)))
    | ((first | apply call0 (m2) ); (focus ((iterate 2 (all_goals (repeat' (first | exact subL_nil | refine subL_cons ?_ ?_ | exact sub_refl_val _ _ )))); done)))
    | ((first | apply call0 (s4 _) ); (focus (iterate 2 (all_goals (repeat' (first | exact subL_nil | refine subL_cons ?_ ?_ | exact sub_refl_val _ _ | exact sub_sb rfl | ((first | refine sub_int ?_ ); first | with_reducible rfl | omega | ((try simp only [wS]); omega) | rfl) | refine sub_int ?_ ))))))
    | (apply ret_mk []; (focus (iterate 2 (all_goals (repeat' (first | exact subL_nil | exact trivial | refine And.intro ?_ ?_ | refine subL_cons ?_ ?_ | refine sub_tup ?_ | exact sub_sb rfl | ((first | refine sub_int ?_ ); first | with_reducible rfl | omega | ((try simp only [wS]); omega) | rfl) | refine sub_int ?_ | refine sub_sbl ?_ ))))); (any_goals (apply okIx_mk; rfl)))
    | omega))
    all_goals first
      | (rw [hneg, cond_true, u5]; done)
      | (rw [hneg, cond_true, u5]; omega)
      | (exfalso; rw [u5] at hb; omega)
      | (exfalso; rw [hb] at hneg; simp at hneg; done)
      | skip
set_option maxHeartbeats 1000000 in
theorem rmuldiv_pos (d b c : Int) (h0 : 0 ≤ d) (h1 : d ≤ 4503599627370496) (h2 : 0 ≤ b) (h3 : b ≤ 1000000000) (c0 : 999500000 ≤ c) (c1 : c ≤ 1000500000) :
    Runs Try.prog 55 [.val (.int .i64 d), .val (.int .i64 b), .val (.int .i64 c)] [] (Det (.tup [.val (.int .i64 (d * b / c)), .sb true]) []) := by
  obtain ⟨p0, p1⟩ := prod_bd d b h0 h1 h2 h3
  have m1 := product_ok d b h0 h1 h2 h3
  have m2 := rdivide_ok (d * b) c p0 p1 c0 (by omega)
  have s1 := rsize_pos d h0 (by omega)
  have s2 := rsize_pos b h2 (by omega)
  have s3 := rsize_pos c (by omega) (by omega)
  obtain ⟨k0, k1⟩ := quo_bd p0 p1 c0
  have hneg := pos_of (d := d) h0 h2 (show 0 < c by omega)
  have hn' : (!decide (d < 0) == decide (b < 0)) = decide (c < 0) := by
    cases h1 : (!decide (d < 0) == decide (b < 0)) <;> cases h2 : decide (c < 0) <;> rw [h1, h2] at hneg <;> first | rfl | cases hneg
  generalize d * b = P at *
  generalize P % c = r at *
  generalize P / c = q at *
  have s4 := rsigned_ok q k0 (by omega)
  refine Runs.mk tabOK Try.call55 Try.func55 rfl Try.ntmps55 Try.results55 rfl ?_
  (repeat' (first
    | (intro Q h; refine h ?_; clear h Q)
    | (refine bcase_mk (fun hb => ?_) (fun hb => ?_) <;> (try simp only [nS, nT, eq_self, reduceCtorEq] at hb))
    | refine seq_go ?_
    | ((first | apply call0 (s1) ); (focus ((iterate 2 (all_goals (repeat' (first | exact subL_nil | refine subL_cons ?_ ?_ | exact sub_refl_val _ _ | refine sub_int ?_ )))); done)))
    | ((first | apply call0 (s2) ); (focus ((iterate 2 (all_goals (repeat' (first | exact subL_nil | refine subL_cons ?_ ?_ | exact sub_refl_val _ _ | refine sub_int ?_ )))); done)))
    | ((first | apply call0 (s3) ); (focus ((iterate 2 (all_goals (repeat' (first | exact subL_nil | refine subL_cons ?_ ?_ | exact sub_refl_val _ _ )))); done)))
    | ((first | apply call0 (m1) ); (focus ((iterate 2 (all_goals (repeat' (first | exact subL_nil | refine subL_cons ?_ ?_ | exact sub_refl_val _ _ )))); done)))
    | ((first | apply call0 (m2) ); (focus ((iterate 2 (all_goals (repeat' (first | exact subL_nil | refine subL_cons ?_ ?_ | exact sub_refl_val _ _ )))); done)))
    | ((first | apply call0 (s4 _) ); (focus (iterate 2 (all_goals (repeat' (first | exact subL_nil | refine subL_cons ?_ ?_ | exact sub_refl_val _ _ | exact sub_sb rfl | refine sub_int ?_ ))))))
    | (apply ret_mk []; (focus (iterate 2 (all_goals (repeat' (first | exact subL_nil | exact trivial | refine And.intro ?_ ?_ | refine subL_cons ?_ ?_ | refine sub_tup ?_ | exact sub_sb rfl | ((first | refine sub_int ?_ ); first | with_reducible rfl | omega | ((try simp only [wS]); omega) | rfl) | refine sub_int ?_ | refine sub_sbl ?_ ))))); (any_goals (apply okIx_mk; rfl)))
    | omega))
  all_goals first
    | (rw [hneg]; rfl)
    | exact absurd hn' ‹¬(!decide (d < 0) == decide (b < 0)) = decide (c < 0)›
    | (exfalso; rw [hneg] at hb; cases hb)
    | fail
end Go.Vx.L53

/- Lemmas of a small executor for the model, and contracts of functions, used for the law that this claim proves. No condition. -/
import Derived.Test.YtodbfpjjahpahaaGreatDoorEW3
import Derived.Test.YtodbfpjjahpahaaGreatDoorEMC
set_option linter.unusedSimpArgs false
set_option linter.unusedVariables false
set_option maxRecDepth 100000
namespace Go.Vx.L58.MD
open Go Go.Proofs Go.Vx.L58
structure DS where
 k : Nat
 hi : Int
 lo : Int
 q : Int
 r : Int
structure DInv (P c : Int) (s : DS) : Prop where
 k : s.k <= 128
 hi : 0 <= s.hi /\ s.hi < 18446744073709551616
 lo : 0 <= s.lo /\ s.lo < 18446744073709551616
 q : 0 <= s.q /\ s.q <= 4505852553647320
 r : 0 <= s.r /\ s.r < c
 e : P * 2 ^ s.k = (c * s.q + s.r) * 340282366920938463463374607431768211456 + s.hi * 18446744073709551616 + s.lo
theorem d2k {P c : Int} (h1 : P <= 4503599627370496000000000) (h0 : 0 <= P) (hc : 999500000 <= c) {k : Nat} (hk : k <= 128) {q r M : Int} (hr : 0 <= r) (hM : 0 <= M) (hq : 0 <= q)
  (e : P * 2 ^ k = (c * q + r) * 340282366920938463463374607431768211456 + M) : q <= 4505852553647320 := by
 have h2 : (2:Int) ^ k <= 2 ^ 128 := by
  have := Nat.pow_le_pow_right (show 0 < 2 by decide) hk
  exact_mod_cast this
 have h3 : P * 2 ^ k <= P * 2 ^ 128 := Int.mul_le_mul_of_nonneg_left h2 h0
 have h4 : (2:Int) ^ 128 = 340282366920938463463374607431768211456 := by decide +kernel
 rw [h4] at h3
 have h5 : 999500000 * q <= c * q := Int.mul_le_mul_of_nonneg_right hc hq
 omega
theorem c0s {P c : Int} (h1 : P <= 4503599627370496000000000) (h0 : 0 <= P) (hc : 999500000 <= c) {s : DS} (h : DInv P c s) (hk : s.k < 128) (hr : c <= s.r * 2 + s.hi / 9223372036854775808) :
  DInv P c ⟨s.k + 1, s.hi * 2 % 18446744073709551616 + s.lo / 9223372036854775808, s.lo * 2 % 18446744073709551616, s.q * 2 + 1, s.r * 2 + s.hi / 9223372036854775808 - c⟩ := by
 obtain ⟨k, hi, lo, q, r⟩ := s
 obtain ⟨a1, a2, a3, a4, a5, a6⟩ := h
 simp only at *
 have e2 : P * 2 ^ (k + 1) = (c * (q * 2 + 1) + (r * 2 + hi / 9223372036854775808 - c)) * 340282366920938463463374607431768211456 + (hi * 2 % 18446744073709551616 + lo / 9223372036854775808) * 18446744073709551616 + lo * 2 % 18446744073709551616 := by
  have : P * 2 ^ (k + 1) = P * 2 ^ k * 2 := by rw [Int.pow_succ, Int.mul_assoc]
  rw [this, a6]
  have : c * (q * 2 + 1) = c * q * 2 + c := by rw [Int.mul_add, Int.mul_one, Int.mul_assoc]
  rw [this]
  omega
 have e3 : (r * 2 + hi / 9223372036854775808 - c) ≥ 0 := by omega
 refine ⟨by simp only; omega, by simp only; omega, by simp only; omega, ⟨by simp only; omega, d2k h1 h0 hc (show k + 1 <= 128 by omega) e3 (q := q * 2 + 1) (M := (hi * 2 % 18446744073709551616 + lo / 9223372036854775808) * 18446744073709551616 + lo * 2 % 18446744073709551616) (by omega) (by omega) (by rw [e2]; omega)⟩, by simp only; omega, e2⟩
theorem c3l {P c : Int} (h1 : P <= 4503599627370496000000000) (h0 : 0 <= P) (hc : 999500000 <= c) {s : DS} (h : DInv P c s) (hk : s.k < 128) (hr : s.r * 2 + s.hi / 9223372036854775808 < c) :
  DInv P c ⟨s.k + 1, s.hi * 2 % 18446744073709551616 + s.lo / 9223372036854775808, s.lo * 2 % 18446744073709551616, s.q * 2, s.r * 2 + s.hi / 9223372036854775808⟩ := by
 obtain ⟨k, hi, lo, q, r⟩ := s
 obtain ⟨a1, a2, a3, a4, a5, a6⟩ := h
 simp only at *
 have e2 : P * 2 ^ (k + 1) = (c * (q * 2) + (r * 2 + hi / 9223372036854775808)) * 340282366920938463463374607431768211456 + (hi * 2 % 18446744073709551616 + lo / 9223372036854775808) * 18446744073709551616 + lo * 2 % 18446744073709551616 := by
  have : P * 2 ^ (k + 1) = P * 2 ^ k * 2 := by rw [Int.pow_succ, Int.mul_assoc]
  rw [this, a6]
  have : c * (q * 2) = c * q * 2 := by rw [Int.mul_assoc]
  rw [this]
  omega
 refine ⟨by simp only; omega, by simp only; omega, by simp only; omega, ⟨by simp only; omega, d2k h1 h0 hc (show k + 1 <= 128 by omega) (r := r * 2 + hi / 9223372036854775808) (q := q * 2) (by omega) (M := (hi * 2 % 18446744073709551616 + lo / 9223372036854775808) * 18446744073709551616 + lo * 2 % 18446744073709551616) (by omega) (by omega) (by rw [e2]; omega)⟩, by simp only; omega, e2⟩
theorem d4e {P c : Int} (hc : 999500000 <= c) {s : DS} (h : DInv P c s) (hk : s.k = 128) : s.q = P / c /\ s.r = P % c := by
 obtain ⟨k, hi, lo, q, r⟩ := s
 obtain ⟨a1, a2, a3, a4, a5, a6⟩ := h
 simp only at *
 subst hk
 have h4 : (2:Int) ^ 128 = 340282366920938463463374607431768211456 := by decide +kernel
 rw [h4] at a6
 have e : P = r + c * q := by omega
 subst e
 refine ⟨?_, ?_⟩
 ·rw [Int.add_mul_ediv_left _ _ (by omega), Int.ediv_eq_zero_of_lt a5.1 a5.2, Int.zero_add]
 ·rw [Int.add_mul_emod_self_left, Int.emod_eq_of_lt a5.1 a5.2]
set_option maxHeartbeats 1000000 in
theorem a8d (P c : Int) (h0 : 0 <= P) (h1 : P <= 4503599627370496000000000) (hc : 999500000 <= c) (hc2 : c <= 4611686018427387904) :
  Runs Tryz.prog 198 [.val (.int .u64 (P / 18446744073709551616)), .val (.int .u64 (P % 18446744073709551616)), .val (.int .u64 c)] [] (Det (.tup [.val (.int .u64 0), .val (.int .u64 (P / c)), .val (.int .u64 (P % c))]) []) := by
 refine Runs.mk a0k Tryz.call198 Tryz.func198 rfl Tryz.ntmps198 Tryz.results198 rfl ?_
 (intro Q h; refine h ?_; clear h Q; repeat (refine a0c ?_; intro Q h; refine h ?_; clear h Q))
 refine a0p (σ := DS) (fun x => DInv P c x) (fun x => ⟨[(0, .val (.int .u64 x.hi)), (1, .val (.int .u64 x.lo)), (2, .val (.int .u64 c)), (9, .val (.int .u64 0)), (10, .val (.int .u64 x.q)), (11, .val (.int .u64 x.r)), (12, .val (.int .i64 x.k))], []⟩) (fun x => 128 - x.k) (⟨0, P / 18446744073709551616, P % 18446744073709551616, 0, 0⟩) ?_ ?_ ?_
 ·refine ⟨by simp only; omega, by simp only; omega, by simp only; omega, by simp only; omega, by simp only; omega, by simp only; omega⟩
 ·exact LT []
 intro s hs
 have ⟨a1, a2, a3, a4, a5, a6⟩ := hs
 have w1 : (2:Int) ^ (min (Int.toNat 63) IntKind.u64.bits) = 9223372036854775808 := by decide +kernel
 have w2 : (2:Int) ^ (min (Int.toNat 1) IntKind.u64.bits) = 2 := by decide +kernel
 have w3 : IntKind.u64.wrap (0 * 2) = 0 := by decide +kernel
 have w4 : IntKind.u64.wrap ((BitVec.ofInt IntKind.u64.bits 0 ||| BitVec.ofInt IntKind.u64.bits 0).toNat : Int) = 0 := by decide +kernel
 have v1 : s.hi.fdiv 9223372036854775808 = s.hi / 9223372036854775808 := Int.fdiv_eq_ediv_of_nonneg _ (by decide)
 have v2 : s.lo.fdiv 9223372036854775808 = s.lo / 9223372036854775808 := Int.fdiv_eq_ediv_of_nonneg _ (by decide)
 have v3 : s.r.fdiv 9223372036854775808 = 0 := by rw [Int.fdiv_eq_ediv_of_nonneg _ (by decide)]; omega
 have v4 : s.q.fdiv 9223372036854775808 = 0 := by rw [Int.fdiv_eq_ediv_of_nonneg _ (by decide)]; omega
 have u1 : IntKind.u64.wrap (s.r * 2) = s.r * 2 := by rw [uw]; omega
 have u2 : IntKind.u64.wrap (s.q * 2) = s.q * 2 := by rw [uw]; omega
 have u3 : IntKind.u64.wrap (s.hi * 2) = s.hi * 2 % 18446744073709551616 := by rw [uw]
 have u4 : IntKind.u64.wrap (s.lo * 2) = s.lo * 2 % 18446744073709551616 := by rw [uw]
 have o1 : IntKind.u64.wrap ((BitVec.ofInt IntKind.u64.bits (s.r * 2) ||| BitVec.ofInt IntKind.u64.bits (s.hi / 9223372036854775808)).toNat : Int) = s.r * 2 + s.hi / 9223372036854775808 :=
  b1b 1 (by decide) (by omega) (by omega) (by omega) (by omega) (by omega)
 have o2 : IntKind.u64.wrap ((BitVec.ofInt IntKind.u64.bits (s.q * 2) ||| BitVec.ofInt IntKind.u64.bits 1).toNat : Int) = s.q * 2 + 1 :=
  b1b 1 (by decide) (by omega) (by omega) (by omega) (by omega) (by omega)
 have o3 : IntKind.u64.wrap ((BitVec.ofInt IntKind.u64.bits (s.hi * 2 % 18446744073709551616) ||| BitVec.ofInt IntKind.u64.bits (s.lo / 9223372036854775808)).toNat : Int) = s.hi * 2 % 18446744073709551616 + s.lo / 9223372036854775808 :=
  b1b 1 (by decide) (by omega) (by omega) (by omega) (by omega) (by omega)
 (repeat' (first
  | refine SP ?_
  | (apply a0a <;> intro hb <;> (try simp only [nS, nT, eq_self, reduceCtorEq] at hb))
  | refine a0c ?_
  | refine OB ?_
  | (apply a0v []; (focus (iterate 2 (all_goals (repeat' (first | exact a0g | exact trivial | refine And.intro ?_ ?_ | refine a0d ?_ ?_ | refine a1c ?_ | exact a0b _ _ | refine a0f ?_ ))))); any_goals (apply a0e; rfl))
  ))
 ·exfalso; rw [w1, v3] at hb; omega
 ·simp only [w1, w2, v1, u1, o1] at hb
  have hb : c <= s.r * 2 + s.hi / 9223372036854775808 := hb
  have d1 : IntKind.u64.wrap (s.r * 2 + s.hi / 9223372036854775808 - c) = s.r * 2 + s.hi / 9223372036854775808 - c := by rw [uw]; omega
  refine a0i (Subtype.mk ⟨s.k + 1, s.hi * 2 % 18446744073709551616 + s.lo / 9223372036854775808, s.lo * 2 % 18446744073709551616, s.q * 2 + 1, s.r * 2 + s.hi / 9223372036854775808 - c⟩ (c0s h1 h0 hc hs (by omega) hb)) ?_ (by simp only; omega)
  (apply a04 []; (focus (iterate 2 (all_goals (repeat' (first | exact trivial | refine SP ?_ | refine And.intro ?_ ?_ | exact a0b _ _ | ((refine a0f ?_); first | with_reducible rfl | omega | ((try simp only [wS]); omega) | rfl) | refine a0f ?_ ))))); any_goals (apply a0e; rfl))
  all_goals (simp only [w1, w2, w3, w4, v1, v2, v4, u1, u2, u3, u4, o1, o2, o3, d1])
 ·simp only [w1, w2, v1, u1, o1] at hb
  have hb : s.r * 2 + s.hi / 9223372036854775808 < c := by omega
  refine a0i (Subtype.mk ⟨s.k + 1, s.hi * 2 % 18446744073709551616 + s.lo / 9223372036854775808, s.lo * 2 % 18446744073709551616, s.q * 2, s.r * 2 + s.hi / 9223372036854775808⟩ (c3l h1 h0 hc hs (by omega) hb)) ?_ (by simp only; omega)
  (apply a04 []; (focus (iterate 2 (all_goals (repeat' (first | exact trivial | refine SP ?_ | refine And.intro ?_ ?_ | exact a0b _ _ | ((refine a0f ?_); first | with_reducible rfl | omega | ((try simp only [wS]); omega) | rfl) | (refine And.left (b := True) ⟨?_, True.intro⟩; assumption) | refine a0f ?_ ))))); any_goals (apply a0e; rfl))
  all_goals (simp only [w1, w2, w3, w4, v1, v2, v4, u1, u2, u3, u4, o1, o2, o3])
 ·exact (d4e hc hs (by omega)).1
 ·exact (d4e hc hs (by omega)).2
set_option maxHeartbeats 1000000 in
theorem b7m (d b c : Int) (h0 : 0 <= d) (h1 : d <= 4503599627370496) (h2 : 0 <= b) (h3 : b <= 1000000000) (c0 : 999500000 <= c) (c1 : c <= 1000500000) :
  Runs Tryz.prog 173 [.val (.int .i64 d), .val (.int .i64 b), .val (.int .i64 c)] [] (Det (.tup [.val (.int .i64 (d * b / c)), .sb true]) []) := by
 obtain ⟨p0, p1⟩ := c4o d b h0 h1 h2 h3
 have m1 := b15 d b h0 h1 h2 h3
 have m2 := a8d (d * b) c p0 p1 c0 (by omega)
 have s1 := a3p d h0 (by omega)
 have s2 := a3p b h2 (by omega)
 have s3 := a3p c (by omega) (by omega)
 obtain ⟨k0, k1⟩ := c70 p0 p1 c0
 have hneg := c3m (d := d) h0 h2 (show 0 < c by omega)
 have hn' : (!decide (d < 0) == decide (b < 0)) = decide (c < 0) := by
  cases h1 : (!decide (d < 0) == decide (b < 0)) <;> cases h2 : decide (c < 0) <;> rw [h1, h2] at hneg <;> first | rfl | cases hneg
 generalize d * b = P at *
 generalize P % c = r at *
 generalize P / c = q at *
 have s4 := a8e q k0 (by omega)
 refine Runs.mk a0k Tryz.call173 Tryz.func173 rfl Tryz.ntmps173 Tryz.results173 rfl ?_
 (repeat' (first
  | refine SP ?_
  | (apply a0a <;> intro hb <;> (try simp only [nS, nT, eq_self, reduceCtorEq] at hb))
  | refine a0c ?_
  | ((first | apply a0t (s1) ); exact AS)
  | ((first | apply a0t (s2) ); exact AS)
  | ((first | apply a0t (s3) ); exact AS)
  | ((first | apply a0t (m1) ); exact AS)
  | ((first | apply a0t (m2) ); exact AS)
  | ((first | apply a0t (s4 _) ); (focus (iterate 2 (all_goals (repeat' (first | exact a0g | refine a0d ?_ ?_ | exact a0b _ _ | exact a1m rfl | refine a0f ?_ ))))))
  | (apply a0v []; (focus (iterate 2 (all_goals (repeat' (first | exact a0g | exact trivial | refine And.intro ?_ ?_ | refine a0d ?_ ?_ | refine a1c ?_ | exact a1m rfl | ((refine a0f ?_); first | with_reducible rfl | omega | ((try simp only [wS]); omega) | rfl) | refine a0f ?_ | refine a0w ?_ ))))); any_goals (apply a0e; rfl))
  | omega))
 all_goals first
  | (rw [hneg]; rfl)
  | exact absurd hn' ‹¬(!decide (d < 0) == decide (b < 0)) = decide (c < 0)›
  | (exfalso; rw [hneg] at hb; cases hb)
  | fail
end Go.Vx.L58.MD
set_option maxRecDepth 100000
namespace Go.Vx.L58.MF
open Go Go.Proofs Go.Vx.L58 Go.Vx.L58.MD
structure DS where
 k : Nat
 hi : Int
 lo : Int
 q : Int
 r : Int
structure DInv (P c : Int) (s : DS) : Prop where
 k : s.k <= 128
 hi : 0 <= s.hi /\ s.hi < 18446744073709551616
 lo : 0 <= s.lo /\ s.lo < 18446744073709551616
 q : 0 <= s.q /\ s.q <= 4398046511104
 r : 0 <= s.r /\ s.r < c
 e : P * 2 ^ s.k = (c * s.q + s.r) * 340282366920938463463374607431768211456 + s.hi * 18446744073709551616 + s.lo
theorem d2k {P c : Int} (h1 : P <= 288230376151711744) (h0 : 0 <= P) (hc : 65536 <= c) {k : Nat} (hk : k <= 128) {q r M : Int} (hr : 0 <= r) (hM : 0 <= M) (hq : 0 <= q)
  (e : P * 2 ^ k = (c * q + r) * 340282366920938463463374607431768211456 + M) : q <= 4398046511104 := by
 have h2 : (2:Int) ^ k <= 2 ^ 128 := by
  have := Nat.pow_le_pow_right (show 0 < 2 by decide) hk
  exact_mod_cast this
 have h3 : P * 2 ^ k <= P * 2 ^ 128 := Int.mul_le_mul_of_nonneg_left h2 h0
 have h4 : (2:Int) ^ 128 = 340282366920938463463374607431768211456 := by decide +kernel
 rw [h4] at h3
 have h5 : 65536 * q <= c * q := Int.mul_le_mul_of_nonneg_right hc hq
 omega
theorem c0s {P c : Int} (h1 : P <= 288230376151711744) (h0 : 0 <= P) (hc : 65536 <= c) {s : DS} (h : DInv P c s) (hk : s.k < 128) (hr : c <= s.r * 2 + s.hi / 9223372036854775808) :
  DInv P c ⟨s.k + 1, s.hi * 2 % 18446744073709551616 + s.lo / 9223372036854775808, s.lo * 2 % 18446744073709551616, s.q * 2 + 1, s.r * 2 + s.hi / 9223372036854775808 - c⟩ := by
 obtain ⟨k, hi, lo, q, r⟩ := s
 obtain ⟨a1, a2, a3, a4, a5, a6⟩ := h
 simp only at *
 have e2 : P * 2 ^ (k + 1) = (c * (q * 2 + 1) + (r * 2 + hi / 9223372036854775808 - c)) * 340282366920938463463374607431768211456 + (hi * 2 % 18446744073709551616 + lo / 9223372036854775808) * 18446744073709551616 + lo * 2 % 18446744073709551616 := by
  have : P * 2 ^ (k + 1) = P * 2 ^ k * 2 := by rw [Int.pow_succ, Int.mul_assoc]
  rw [this, a6]
  have : c * (q * 2 + 1) = c * q * 2 + c := by rw [Int.mul_add, Int.mul_one, Int.mul_assoc]
  rw [this]
  omega
 have e3 : (r * 2 + hi / 9223372036854775808 - c) ≥ 0 := by omega
 refine ⟨by simp only; omega, by simp only; omega, by simp only; omega, ⟨by simp only; omega, d2k h1 h0 hc (show k + 1 <= 128 by omega) e3 (q := q * 2 + 1) (M := (hi * 2 % 18446744073709551616 + lo / 9223372036854775808) * 18446744073709551616 + lo * 2 % 18446744073709551616) (by omega) (by omega) (by rw [e2]; omega)⟩, by simp only; omega, e2⟩
theorem c3l {P c : Int} (h1 : P <= 288230376151711744) (h0 : 0 <= P) (hc : 65536 <= c) {s : DS} (h : DInv P c s) (hk : s.k < 128) (hr : s.r * 2 + s.hi / 9223372036854775808 < c) :
  DInv P c ⟨s.k + 1, s.hi * 2 % 18446744073709551616 + s.lo / 9223372036854775808, s.lo * 2 % 18446744073709551616, s.q * 2, s.r * 2 + s.hi / 9223372036854775808⟩ := by
 obtain ⟨k, hi, lo, q, r⟩ := s
 obtain ⟨a1, a2, a3, a4, a5, a6⟩ := h
 simp only at *
 have e2 : P * 2 ^ (k + 1) = (c * (q * 2) + (r * 2 + hi / 9223372036854775808)) * 340282366920938463463374607431768211456 + (hi * 2 % 18446744073709551616 + lo / 9223372036854775808) * 18446744073709551616 + lo * 2 % 18446744073709551616 := by
  have : P * 2 ^ (k + 1) = P * 2 ^ k * 2 := by rw [Int.pow_succ, Int.mul_assoc]
  rw [this, a6]
  have : c * (q * 2) = c * q * 2 := by rw [Int.mul_assoc]
  rw [this]
  omega
 refine ⟨by simp only; omega, by simp only; omega, by simp only; omega, ⟨by simp only; omega, d2k h1 h0 hc (show k + 1 <= 128 by omega) (r := r * 2 + hi / 9223372036854775808) (q := q * 2) (by omega) (M := (hi * 2 % 18446744073709551616 + lo / 9223372036854775808) * 18446744073709551616 + lo * 2 % 18446744073709551616) (by omega) (by omega) (by rw [e2]; omega)⟩, by simp only; omega, e2⟩
theorem d4e {P c : Int} (hc : 65536 <= c) {s : DS} (h : DInv P c s) (hk : s.k = 128) : s.q = P / c /\ s.r = P % c := by
 obtain ⟨k, hi, lo, q, r⟩ := s
 obtain ⟨a1, a2, a3, a4, a5, a6⟩ := h
 simp only at *
 subst hk
 have h4 : (2:Int) ^ 128 = 340282366920938463463374607431768211456 := by decide +kernel
 rw [h4] at a6
 have e : P = r + c * q := by omega
 subst e
 refine ⟨?_, ?_⟩
 ·rw [Int.add_mul_ediv_left _ _ (by omega), Int.ediv_eq_zero_of_lt a5.1 a5.2, Int.zero_add]
 ·rw [Int.add_mul_emod_self_left, Int.emod_eq_of_lt a5.1 a5.2]
set_option maxHeartbeats 1000000 in
theorem a8d (P c : Int) (h0 : 0 <= P) (h1 : P <= 288230376151711744) (hc : 65536 <= c) (hc2 : c <= 4611686018427387904) :
  Runs Tryz.prog 198 [.val (.int .u64 (P / 18446744073709551616)), .val (.int .u64 (P % 18446744073709551616)), .val (.int .u64 c)] [] (Det (.tup [.val (.int .u64 0), .val (.int .u64 (P / c)), .val (.int .u64 (P % c))]) []) := by
 refine Runs.mk a0k Tryz.call198 Tryz.func198 rfl Tryz.ntmps198 Tryz.results198 rfl ?_
 (intro Q h; refine h ?_; clear h Q; repeat (refine a0c ?_; intro Q h; refine h ?_; clear h Q))
 refine a0p (σ := DS) (fun x => DInv P c x) (fun x => ⟨[(0, .val (.int .u64 x.hi)), (1, .val (.int .u64 x.lo)), (2, .val (.int .u64 c)), (9, .val (.int .u64 0)), (10, .val (.int .u64 x.q)), (11, .val (.int .u64 x.r)), (12, .val (.int .i64 x.k))], []⟩) (fun x => 128 - x.k) (⟨0, P / 18446744073709551616, P % 18446744073709551616, 0, 0⟩) ?_ ?_ ?_
 ·refine ⟨by simp only; omega, by simp only; omega, by simp only; omega, by simp only; omega, by simp only; omega, by simp only; omega⟩
 ·exact LT []
 intro s hs
 have ⟨a1, a2, a3, a4, a5, a6⟩ := hs
 have w1 : (2:Int) ^ (min (Int.toNat 63) IntKind.u64.bits) = 9223372036854775808 := by decide +kernel
 have w2 : (2:Int) ^ (min (Int.toNat 1) IntKind.u64.bits) = 2 := by decide +kernel
 have w3 : IntKind.u64.wrap (0 * 2) = 0 := by decide +kernel
 have w4 : IntKind.u64.wrap ((BitVec.ofInt IntKind.u64.bits 0 ||| BitVec.ofInt IntKind.u64.bits 0).toNat : Int) = 0 := by decide +kernel
 have v1 : s.hi.fdiv 9223372036854775808 = s.hi / 9223372036854775808 := Int.fdiv_eq_ediv_of_nonneg _ (by decide)
 have v2 : s.lo.fdiv 9223372036854775808 = s.lo / 9223372036854775808 := Int.fdiv_eq_ediv_of_nonneg _ (by decide)
 have v3 : s.r.fdiv 9223372036854775808 = 0 := by rw [Int.fdiv_eq_ediv_of_nonneg _ (by decide)]; omega
 have v4 : s.q.fdiv 9223372036854775808 = 0 := by rw [Int.fdiv_eq_ediv_of_nonneg _ (by decide)]; omega
 have u1 : IntKind.u64.wrap (s.r * 2) = s.r * 2 := by rw [uw]; omega
 have u2 : IntKind.u64.wrap (s.q * 2) = s.q * 2 := by rw [uw]; omega
 have u3 : IntKind.u64.wrap (s.hi * 2) = s.hi * 2 % 18446744073709551616 := by rw [uw]
 have u4 : IntKind.u64.wrap (s.lo * 2) = s.lo * 2 % 18446744073709551616 := by rw [uw]
 have o1 : IntKind.u64.wrap ((BitVec.ofInt IntKind.u64.bits (s.r * 2) ||| BitVec.ofInt IntKind.u64.bits (s.hi / 9223372036854775808)).toNat : Int) = s.r * 2 + s.hi / 9223372036854775808 :=
  b1b 1 (by decide) (by omega) (by omega) (by omega) (by omega) (by omega)
 have o2 : IntKind.u64.wrap ((BitVec.ofInt IntKind.u64.bits (s.q * 2) ||| BitVec.ofInt IntKind.u64.bits 1).toNat : Int) = s.q * 2 + 1 :=
  b1b 1 (by decide) (by omega) (by omega) (by omega) (by omega) (by omega)
 have o3 : IntKind.u64.wrap ((BitVec.ofInt IntKind.u64.bits (s.hi * 2 % 18446744073709551616) ||| BitVec.ofInt IntKind.u64.bits (s.lo / 9223372036854775808)).toNat : Int) = s.hi * 2 % 18446744073709551616 + s.lo / 9223372036854775808 :=
  b1b 1 (by decide) (by omega) (by omega) (by omega) (by omega) (by omega)
 (repeat' (first
  | refine SP ?_
  | (apply a0a <;> intro hb <;> (try simp only [nS, nT, eq_self, reduceCtorEq] at hb))
  | refine a0c ?_
  | refine OB ?_
  | (apply a0v []; (focus (iterate 2 (all_goals (repeat' (first | exact a0g | exact trivial | refine And.intro ?_ ?_ | refine a0d ?_ ?_ | refine a1c ?_ | exact a0b _ _ | refine a0f ?_ ))))); any_goals (apply a0e; rfl))
  ))
 ·exfalso; rw [w1, v3] at hb; omega
 ·simp only [w1, w2, v1, u1, o1] at hb
  have hb : c <= s.r * 2 + s.hi / 9223372036854775808 := hb
  have d1 : IntKind.u64.wrap (s.r * 2 + s.hi / 9223372036854775808 - c) = s.r * 2 + s.hi / 9223372036854775808 - c := by rw [uw]; omega
  refine a0i (Subtype.mk ⟨s.k + 1, s.hi * 2 % 18446744073709551616 + s.lo / 9223372036854775808, s.lo * 2 % 18446744073709551616, s.q * 2 + 1, s.r * 2 + s.hi / 9223372036854775808 - c⟩ (c0s h1 h0 hc hs (by omega) hb)) ?_ (by simp only; omega)
  (apply a04 []; (focus (iterate 2 (all_goals (repeat' (first | exact trivial | refine SP ?_ | refine And.intro ?_ ?_ | exact a0b _ _ | ((refine a0f ?_); first | with_reducible rfl | omega | ((try simp only [wS]); omega) | rfl) | refine a0f ?_ ))))); any_goals (apply a0e; rfl))
  all_goals (simp only [w1, w2, w3, w4, v1, v2, v4, u1, u2, u3, u4, o1, o2, o3, d1])
 ·simp only [w1, w2, v1, u1, o1] at hb
  have hb : s.r * 2 + s.hi / 9223372036854775808 < c := by omega
  refine a0i (Subtype.mk ⟨s.k + 1, s.hi * 2 % 18446744073709551616 + s.lo / 9223372036854775808, s.lo * 2 % 18446744073709551616, s.q * 2, s.r * 2 + s.hi / 9223372036854775808⟩ (c3l h1 h0 hc hs (by omega) hb)) ?_ (by simp only; omega)
  (apply a04 []; (focus (iterate 2 (all_goals (repeat' (first | exact trivial | refine SP ?_ | refine And.intro ?_ ?_ | exact a0b _ _ | ((refine a0f ?_); first | with_reducible rfl | omega | ((try simp only [wS]); omega) | rfl) | (refine And.left (b := True) ⟨?_, True.intro⟩; assumption) | refine a0f ?_ ))))); any_goals (apply a0e; rfl))
  all_goals (simp only [w1, w2, w3, w4, v1, v2, v4, u1, u2, u3, u4, o1, o2, o3])
 ·exact (d4e hc hs (by omega)).1
 ·exact (d4e hc hs (by omega)).2
theorem tdm (z : Int) : (z % 18446744073709551616).tdiv 4294967296 = z % 18446744073709551616 / 4294967296 := a5p _ (by omega)
theorem tmm (z : Int) : (z % 18446744073709551616).tmod 4294967296 = z % 18446744073709551616 % 4294967296 := a60 _ (by omega)
theorem b6a (x : Int) (h0 : 0 <= x) (h1 : x <= 288230376151711744) :
  Runs Tryz.prog 195 [.val (.int .u64 x), .val (.int .u64 1)] [] (Det (.tup [.val (.int .u64 (x / 18446744073709551616)), .val (.int .u64 (x % 18446744073709551616))]) []) := by
 have e0 : Int.tdiv 1 4294967296 = 0 := by decide
 have e1 : Int.tmod 1 4294967296 = 1 := by decide
 have e2 := a5p 4294967296 h0
 have e3 := a60 4294967296 h0
 refine Runs.mk a0k Tryz.call195 Tryz.func195 rfl Tryz.ntmps195 Tryz.results195 rfl ?_
 (repeat' (first
  | refine SP ?_
  | refine OB ?_
  | (apply a0v []; (focus (iterate 2 (all_goals (repeat' (first | exact a0g | exact trivial | refine And.intro ?_ ?_ | refine a0d ?_ ?_ | refine a1c ?_ | refine a0f ?_ ))))); any_goals (apply a0e; rfl))
  ))
 all_goals (simp only [e0, e1, e2, e3, uw, tdm, tmm, Int.mul_zero, Int.mul_one, Int.zero_emod]; omega)
set_option maxHeartbeats 1000000 in
theorem rfloor_ok (d : Int) (h0 : 0 <= d) (h1 : d <= 288230376151711744) :
  Runs Tryz.prog 173 [.val (.int .i64 d), .val (.int .i64 1), .val (.int .i64 65536)] [] (Det (.tup [.val (.int .i64 (d / 65536)), .sb true]) []) := by
 have m1 := b6a d h0 h1
 have m2 := a8d d 65536 h0 h1 (by omega) (by omega)
 have s1 := a3p d h0 (by omega)
 have s2 := a3p 1 (by omega) (by omega)
 have s3 := a3p 65536 (by omega) (by omega)
 have hneg := c3m (d := d) (b := 1) (c := 65536) h0 (by omega) (by omega)
 have hn' : (!decide (d < 0) == decide ((1 : Int) < 0)) = decide ((65536 : Int) < 0) := by
  cases h1 : (!decide (d < 0) == decide ((1 : Int) < 0)) <;> cases h2 : decide ((65536 : Int) < 0) <;> rw [h1, h2] at hneg <;> first | rfl | cases hneg
 have k0 : 0 <= d / 65536 /\ d / 65536 <= 4398046511104 := by omega
 generalize hr : d % 65536 = r at *
 generalize hq : d / 65536 = q at *
 have s4 := a8e q k0.1 (by omega)
 refine Runs.mk a0k Tryz.call173 Tryz.func173 rfl Tryz.ntmps173 Tryz.results173 rfl ?_
 (repeat' (first
  | refine SP ?_
  | (apply a0a <;> intro hb <;> (try simp only [nS, nT, eq_self, reduceCtorEq] at hb))
  | refine a0c ?_
  | ((first | apply a0t (s1) ); exact AS)
  | ((first | apply a0t (s2) ); exact AS)
  | ((first | apply a0t (s3) ); exact AS)
  | ((first | apply a0t (m1) ); exact AS)
  | ((first | apply a0t (m2) ); exact AS)
  | ((first | apply a0t (s4 _) ); (focus (iterate 2 (all_goals (repeat' (first | exact a0g | refine a0d ?_ ?_ | exact a0b _ _ | exact a1m rfl | refine a0f ?_ ))))))
  | (apply a0v []; (focus (iterate 2 (all_goals (repeat' (first | exact a0g | exact trivial | refine And.intro ?_ ?_ | refine a0d ?_ ?_ | refine a1c ?_ | exact a1m rfl | ((refine a0f ?_); first | with_reducible rfl | omega | ((try simp only [wS]); omega) | rfl) | refine a0f ?_ | refine a0w ?_ ))))); any_goals (apply a0e; rfl))
  | omega))
 all_goals first
  | (rw [hneg]; rfl)
  | exact absurd hn' ‹¬(!decide (d < 0) == decide ((1 : Int) < 0)) = decide ((65536 : Int) < 0)›
  | (exfalso; rw [hneg] at hb; cases hb)
  | fail
end Go.Vx.L58.MF

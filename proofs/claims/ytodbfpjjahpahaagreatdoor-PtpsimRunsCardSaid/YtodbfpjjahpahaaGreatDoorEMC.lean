/- Lemmas of a small executor for the model, and contracts of functions, used for the law that this claim proves. No condition. -/
import Derived.Test.YtodbfpjjahpahaaGreatDoorEW3
import Derived.Test.YtodbfpjjahpahaaGreatDoorET58
import Derived.Handy
set_option linter.unusedSimpArgs false
set_option linter.unusedVariables false
set_option maxRecDepth 100000
namespace Go.Vx.L58.MD
open Go Go.Proofs Go.Vx.L58
theorem uw (n : Int) : IntKind.u64.wrap n = n % 18446744073709551616 := by rw [IntKind.wrap_u64]
theorem a9l {a : Int} (h0 : 0 <= a) (h1 : a < 18446744073709551616) : (BitVec.ofInt IntKind.u64.bits a).toNat = a.toNat := by
 rw [BitVec.toNat_ofInt]
 show (a % ((2:Int)^64)).toNat = a.toNat
 congr 1
 exact Int.emod_eq_of_lt h0 h1
theorem b2r {a : Int} (h0 : 0 <= a) (h1 : a < 18446744073709551616) : IntKind.u64.wrap ((BitVec.ofInt IntKind.u64.bits a &&& BitVec.ofInt IntKind.u64.bits 4294967295).toNat : Int) = a % 4294967296 := by
 rw [BitVec.toNat_and, a9l h0 h1, a9l (by decide) (by decide)]
 have : (4294967295 : Int).toNat = 2 ^ 32 - 1 := by decide
 rw [this, Nat.and_two_pow_sub_one_eq_mod, uw]
 omega
theorem b1b {a b : Int} (k : Nat) (hk : k <= 64) (h0 : 0 <= a) (h1 : a < 18446744073709551616) (h2 : 0 <= b) (h3 : b < 2 ^ k) (h4 : a % 2 ^ k = 0) :
  IntKind.u64.wrap ((BitVec.ofInt IntKind.u64.bits a ||| BitVec.ofInt IntKind.u64.bits b).toNat : Int) = a + b := by
 have hb : b < 18446744073709551616 := Int.lt_of_lt_of_le h3 (by
  have : (2:Int) ^ k = ((2 ^ k : Nat) : Int) := by simp
  rw [this]
  have h := Nat.pow_le_pow_right (show 0 < 2 by decide) hk
  have : (2:Nat)^64 = 18446744073709551616 := by decide
  omega)
 have hor : (a.toNat ||| b.toNat) < 2 ^ 64 := Nat.or_lt_two_pow (by omega) (by omega)
 rw [BitVec.toNat_or, a9l h0 h1, a9l h2 hb, uw, Int.emod_eq_of_lt (by omega) (by omega)]
 obtain ⟨A, rfl⟩ := Int.eq_ofNat_of_zero_le h0
 obtain ⟨B, rfl⟩ := Int.eq_ofNat_of_zero_le h2
 have hp : (2:Int) ^ k = ((2 ^ k : Nat) : Int) := by simp
 rw [hp] at h3 h4
 have h5 : A % 2 ^ k = 0 := by exact_mod_cast h4
 have h6 : B < 2 ^ k := by exact_mod_cast h3
 have h7 := Nat.div_add_mod A (2 ^ k)
 rw [h5, Nat.add_zero] at h7
 simp only [Int.toNat_natCast]
 rw [<- h7, <- Nat.two_pow_add_eq_or_of_lt h6]
 simp
theorem d5r (a : Int) (h : 0 <= a) : a.fdiv (2 ^ (min (Int.toNat 32) IntKind.u64.bits)) = a / 4294967296 := by
 have : ((2:Int) ^ (min (Int.toNat 32) IntKind.u64.bits)) = 4294967296 := by decide
 rw [this, Int.fdiv_eq_ediv_of_nonneg _ (by decide)]
theorem size_pos (n : Int) (h : 0 <= n) (h1 : n <= 9223372036854775807) : Runs Tryz.prog 188 [.val (.int .i64 n)] [] (Det (.val (.int .u64 n)) []) := by
 refine Runs.mk a0k Tryz.call188 Tryz.func188 rfl Tryz.ntmps188 Tryz.results188 rfl ?_
 (repeat' (first
  | refine SP ?_
  | (apply a0a <;> intro hb <;> (try simp only [nS, nT, eq_self, reduceCtorEq] at hb))
  | refine a0c ?_
  | (apply a0v []; (focus (iterate 2 (all_goals (repeat' (first | exact trivial | refine And.intro ?_ ?_ | ((refine a0f ?_); first | with_reducible rfl | omega | ((try simp only [wS]); omega) | rfl) | refine a0f ?_ ))))); any_goals (apply a0e; rfl))
  ))
 all_goals (simp only [uw, IntKind.wrap_i64, cond_true, cond_false]; omega)
theorem a3p (n : Int) (h : 0 <= n) (h1 : n <= 9223372036854775807) : Runs Tryz.prog 196 [.val (.int .i64 n)] [] (Det (.val (.int .u64 n)) []) := by
 refine Runs.mk a0k Tryz.call196 Tryz.func196 rfl Tryz.ntmps196 Tryz.results196 rfl ?_
 (repeat' (first
  | refine SP ?_
  | (apply a0a <;> intro hb <;> (try simp only [nS, nT, eq_self, reduceCtorEq] at hb))
  | refine a0c ?_
  | (apply a0v []; (focus (iterate 2 (all_goals (repeat' (first | exact trivial | refine And.intro ?_ ?_ | ((refine a0f ?_); first | with_reducible rfl | omega | ((try simp only [wS]); omega) | rfl) | refine a0f ?_ ))))); any_goals (apply a0e; rfl))
  ))
 all_goals (simp only [uw, IntKind.wrap_i64, cond_true, cond_false]; omega)
theorem b4v (m : Int) (h : 0 <= m) (h1 : m <= 9223372036854775807) (neg : Bool) : Runs Tryz.prog 189 [.val (.int .u64 m), .sb neg] [] (Det (.tup [.val (.int .i64 (bif neg then -m else m)), .sb true]) []) := by
 cases neg
 ·refine Runs.mk a0k Tryz.call189 Tryz.func189 rfl Tryz.ntmps189 Tryz.results189 rfl ?_
  (repeat' (first
  | refine SP ?_
  | (with_reducible refine a07 ?_)
  | (apply a0a <;> intro hb <;> (try simp only [nS, nT, eq_self, reduceCtorEq] at hb))
  | refine a0c ?_
  | (apply a0v []; (focus (iterate 2 (all_goals (repeat' (first | exact a0g | exact trivial | refine And.intro ?_ ?_ | refine a0d ?_ ?_ | refine a1c ?_ | exact a0w rfl | ((refine a0f ?_); first | with_reducible rfl | omega | ((try simp only [wS]); omega) | rfl) | refine a0f ?_ | refine a0w ?_ ))))); any_goals (apply a0e; rfl))
  | omega))
  all_goals (simp only [uw, IntKind.wrap_i64, cond_true, cond_false]; omega)
 ·refine Runs.mk a0k Tryz.call189 Tryz.func189 rfl Tryz.ntmps189 Tryz.results189 rfl ?_
  (repeat' (first
  | refine SP ?_
  | (with_reducible refine a01 ?_)
  | (apply a0a <;> intro hb <;> (try simp only [nS, nT, eq_self, reduceCtorEq] at hb))
  | refine a0c ?_
  | (apply a0v []; (focus (iterate 2 (all_goals (repeat' (first | exact a0g | exact trivial | refine And.intro ?_ ?_ | refine a0d ?_ ?_ | refine a1c ?_ | exact a0w rfl | ((refine a0f ?_); first | with_reducible rfl | omega | ((try simp only [wS]); omega) | rfl) | refine a0f ?_ | refine a0w ?_ ))))); any_goals (apply a0e; rfl))
  | omega))
  all_goals (simp only [uw, IntKind.wrap_i64, cond_true, cond_false]; omega)
theorem a8e (m : Int) (h : 0 <= m) (h1 : m <= 9223372036854775807) (neg : Bool) : Runs Tryz.prog 197 [.sb neg, .val (.int .u64 0), .val (.int .u64 m)] [] (Det (.tup [.val (.int .i64 (bif neg then -m else m)), .sb true]) []) := by
 cases neg
 ·refine Runs.mk a0k Tryz.call197 Tryz.func197 rfl Tryz.ntmps197 Tryz.results197 rfl ?_
  (repeat' (first
  | refine SP ?_
  | (apply a0a <;> intro hb <;> (try simp only [nS, nT, eq_self, reduceCtorEq] at hb))
  | refine a0c ?_
  | (apply a0v []; (focus (iterate 2 (all_goals (repeat' (first | exact a0g | exact trivial | refine And.intro ?_ ?_ | refine a0d ?_ ?_ | refine a1c ?_ | exact a0w rfl | ((refine a0f ?_); first | with_reducible rfl | omega | ((try simp only [wS]); omega) | rfl) | refine a0f ?_ | refine a0w ?_ ))))); any_goals (apply a0e; rfl))
  | omega))
  all_goals (simp only [uw, IntKind.wrap_i64, cond_true, cond_false]; omega)
 ·refine Runs.mk a0k Tryz.call197 Tryz.func197 rfl Tryz.ntmps197 Tryz.results197 rfl ?_
  (repeat' (first
  | refine SP ?_
  | (apply a0a <;> intro hb <;> (try simp only [nS, nT, eq_self, reduceCtorEq] at hb))
  | refine a0c ?_
  | (apply a0v []; (focus (iterate 2 (all_goals (repeat' (first | exact a0g | exact trivial | refine And.intro ?_ ?_ | refine a0d ?_ ?_ | refine a1c ?_ | exact a0w rfl | ((refine a0f ?_); first | with_reducible rfl | omega | ((try simp only [wS]); omega) | rfl) | refine a0f ?_ | refine a0w ?_ ))))); any_goals (apply a0e; rfl))
  | omega))
  all_goals (simp only [uw, IntKind.wrap_i64, cond_true, cond_false]; omega)
end Go.Vx.L58.MD
set_option maxRecDepth 100000
namespace Go.Vx.L58.MD
open Go Go.Proofs Go.Vx.L58
theorem c4z {a : Int} (h0 : 0 <= a) (h1 : a < 18446744073709551616) : IntKind.u64.wrap a = a := by rw [uw]; omega
theorem a5p {a : Int} (b : Int) (h0 : 0 <= a) : a.tdiv b = a / b := Int.tdiv_eq_ediv_of_nonneg h0
theorem a60 {a : Int} (b : Int) (h0 : 0 <= a) : a.tmod b = a % b := Int.tmod_eq_emod_of_nonneg h0
theorem parts (x y : Int) (h0 : 0 <= x) (h1 : x <= 4503599627370496) (h2 : 0 <= y) (h3 : y <= 1000000000) :
  ∃ p q : Int, x % 4294967296 * y = p /\ x / 4294967296 * y = q /\ x * y = q * 4294967296 + p /\ (0 <= p /\ p <= 4294967296000000000) /\ (0 <= q /\ q <= 1048576000000000) := by
 refine ⟨_, _, rfl, rfl, ?_, ⟨?_, ?_⟩, ⟨?_, ?_⟩⟩
 ·have h := Int.mul_ediv_add_emod x 4294967296
  calc x * y = (4294967296 * (x / 4294967296) + x % 4294967296) * y := by rw [h]
   _ = _ := by rw [Int.add_mul, Int.mul_assoc, Int.mul_comm]
 ·exact Int.mul_nonneg (by omega) h2
 ·have : x % 4294967296 * y <= 4294967296 * 1000000000 := Int.mul_le_mul (by omega) h3 h2 (by decide)
  omega
 ·exact Int.mul_nonneg (by omega) h2
 ·have : x / 4294967296 * y <= 1048576 * 1000000000 := Int.mul_le_mul (by omega) h3 h2 (by decide)
  omega
theorem b73 (x y : Int) (h0 : 0 <= x) (h1 : x <= 4503599627370496) (h2 : 0 <= y) (h3 : y <= 1000000000) :
  Runs Tryz.prog 187 [.val (.int .u64 x), .val (.int .u64 y)] [] (Det (.tup [.val (.int .u64 (x * y / 18446744073709551616)), .val (.int .u64 (x * y % 18446744073709551616))]) []) := by
 obtain ⟨p, q, hp, hq, hxy, bp, bq⟩ := parts x y h0 h1 h2 h3
 have e1 : y / 4294967296 = 0 := by omega
 have e2 : y % 4294967296 = y := by omega
 refine Runs.mk a0k Tryz.call187 Tryz.func187 rfl Tryz.ntmps187 Tryz.results187 rfl ?_
 (repeat' (first
  | refine SP ?_
  | refine OB ?_
  | (apply a0v []; (focus (iterate 2 (all_goals (repeat' (first | exact a0g | exact trivial | refine And.intro ?_ ?_ | refine a0d ?_ ?_ | refine a1c ?_ | exact a0b _ _ | refine a0f ?_ ))))); any_goals (apply a0e; rfl))
  ))
 all_goals
  rw [hxy]
  (try (simp (disch := omega) only [b2r, d5r, e1, e2, hp, hq, Int.mul_zero, Int.add_zero, c4z]))
 all_goals (omega)
theorem b15 (x y : Int) (h0 : 0 <= x) (h1 : x <= 4503599627370496) (h2 : 0 <= y) (h3 : y <= 1000000000) :
  Runs Tryz.prog 195 [.val (.int .u64 x), .val (.int .u64 y)] [] (Det (.tup [.val (.int .u64 (x * y / 18446744073709551616)), .val (.int .u64 (x * y % 18446744073709551616))]) []) := by
 obtain ⟨p, q, hp, hq, hxy, bp, bq⟩ := parts x y h0 h1 h2 h3
 have e1 : y / 4294967296 = 0 := by omega
 have e2 : y % 4294967296 = y := by omega
 refine Runs.mk a0k Tryz.call195 Tryz.func195 rfl Tryz.ntmps195 Tryz.results195 rfl ?_
 (repeat' (first
  | refine SP ?_
  | refine OB ?_
  | (apply a0v []; (focus (iterate 2 (all_goals (repeat' (first | exact a0g | exact trivial | refine And.intro ?_ ?_ | refine a0d ?_ ?_ | refine a1c ?_ | refine a0f ?_ ))))); any_goals (apply a0e; rfl))
  ))
 all_goals
  rw [hxy]
  (try (simp (disch := omega) only [a5p, a60, e1, e2, hp, hq, Int.mul_zero, Int.add_zero, Int.zero_add, c4z]))
 all_goals omega
theorem c65 (x y : Int) (h0 : 0 <= x) (h1 : x <= 18446744073709551615) (h2 : 0 < y) (h3 : y <= 9223372036854775807) :
  Runs Tryz.prog 231 [.val (.int .u64 0), .val (.int .u64 x), .val (.int .u64 y)] [] (Det (.tup [.val (.int .u64 (x / y)), .val (.int .u64 (x % y))]) []) := by
 have k0 : 0 <= x / y := Int.ediv_nonneg h0 (by omega)
 have k1 : x / y <= x := Int.ediv_le_self _ h0
 refine Runs.mk a0k Tryz.call231 Tryz.func231 rfl Tryz.ntmps231 Tryz.results231 rfl ?_
 (repeat' (first
  | refine SP ?_
  | (apply a0a <;> intro hb <;> (try simp only [nS, nT, eq_self, reduceCtorEq] at hb))
  | refine a0q (by decide +kernel) ?_
  | refine a0c ?_
  | refine OB ?_
  | (apply a0v []; (focus (iterate 2 (all_goals (repeat' (first | exact a0g | exact trivial | refine And.intro ?_ ?_ | refine a0d ?_ ?_ | refine a1c ?_ | refine a0f ?_ ))))); any_goals (apply a0e; rfl))
  | omega))
 ·rw [a5p _ h0, c4z k0 (by omega)]
 ·rw [a60 _ h0]
end Go.Vx.L58.MD
set_option maxRecDepth 100000
namespace Go.Vx.L58.MD
open Go Go.Proofs Go.Vx.L58
theorem d2p (a : Int) (n : Nat) (hn : n <= 64) : a.fdiv (2 ^ (min n IntKind.u64.bits)) = a / 2 ^ n := by
 have : min n IntKind.u64.bits = n := Nat.min_eq_left hn
 rw [this, Int.fdiv_eq_ediv_of_nonneg _ (by exact_mod_cast Nat.zero_le _)]
theorem d2t (c : Int) (h0 : 999500000 <= c) (h1 : c <= 1000500000) : Runs Tryz.prog 185 [.val (.int .u64 c)] [] (Det (.val (.int .i64 30)) []) := by
 have e1 : c.fdiv (2 ^ min (Int.toNat 16) IntKind.u64.bits) = c / 65536 := d2p c 16 (by decide)
 have e2 : (c / 65536).fdiv (2 ^ min (Int.toNat 8) IntKind.u64.bits) = c / 65536 / 256 := d2p _ 8 (by decide)
 have e3 : c / 65536 / 256 = 59 := by omega
 have e4 : IntKind.u8.wrap 59 = 59 := by decide
 refine Runs.mk a0k Tryz.call185 Tryz.func185 rfl Tryz.ntmps185 Tryz.results185 rfl ?_
 (repeat' (first
  | refine SP ?_
  | (apply a0a <;> intro hb <;> (try simp only [nS, nT, eq_self, reduceCtorEq] at hb))
  | refine a0c ?_
  | refine OB ?_
  | exact RT []
  ))
 ·simp only [e1, e2, e3, e4]
  refine And.intro (by decide) ?_
  (repeat' (first
  | refine SP ?_
  | refine OB ?_
  | exact RT []
  ))
  all_goals (try (simp only [e1, e2, e3, e4]; decide +kernel))
theorem d4z (c : Int) (h0 : 999500000 <= c) (h1 : c <= 1000500000) : Runs Tryz.prog 232 [.val (.int .u64 c)] [] (Det (.val (.int .i64 34)) []) := by
 refine Runs.mk a0k Tryz.call232 Tryz.func232 rfl Tryz.ntmps232 Tryz.results232 rfl ?_
 (repeat' (first
  | refine SP ?_
  | ((first | apply a0t (d2t c h0 h1) ); exact AS)
  | exact RT []
  ))
theorem b9l {N c q r : Int} (h : N = c * q + r) (h0 : 0 <= r) (h1 : r < c) : N / c = q /\ N % c = r := by
 subst h
 refine ⟨?_, ?_⟩
 ·rw [Int.add_comm, Int.add_mul_ediv_left _ _ (by omega), Int.ediv_eq_zero_of_lt h0 h1, Int.zero_add]
 ·rw [Int.add_comm, Int.add_mul_emod_self_left, Int.emod_eq_of_lt h0 h1]
set_option maxHeartbeats 1000000 in
theorem c6q (h lo c : Int) (h0 : 0 < h) (h1 : h <= 300000) (h2 : 0 <= lo) (h3 : lo < 18446744073709551616) (c0 : 999500000 <= c) (c1 : c <= 1000500000) :
  Runs Tryz.prog 231 [.val (.int .u64 h), .val (.int .u64 lo), .val (.int .u64 c)] [] (Det (.tup [.val (.int .u64 ((h * 18446744073709551616 + lo) / c)), .val (.int .u64 ((h * 18446744073709551616 + lo) % c))]) []) := by
 have f1 : IntKind.u64.wrap 34 = 34 := by rw [uw]; rfl
 have f5 : (2:Int) ^ (min (Int.toNat 34) IntKind.u64.bits) = 17179869184 := by decide +kernel
 have f6 : (2:Int) ^ (min (Int.toNat (IntKind.u64.wrap (64 - 34))) IntKind.u64.bits) = 1073741824 := by decide +kernel
 have f7 : (2:Int) ^ (min (Int.toNat 32) IntKind.u64.bits) = 4294967296 := by decide +kernel
 obtain ⟨D, hD⟩ : ∃ D, D = c * 4 := ⟨_, rfl⟩
 have bD : 3998000000 <= D /\ D <= 4002000000 := by omega
 have f2 : IntKind.u64.wrap (c * 17179869184) = D * 4294967296 := by rw [uw]; omega
 have f3 : Int.fdiv (D * 4294967296) 4294967296 = D := by rw [Int.fdiv_eq_ediv_of_nonneg _ (by decide)]; omega
 have f4 : IntKind.u64.wrap ((BitVec.ofInt IntKind.u64.bits (D * 4294967296) &&& BitVec.ofInt IntKind.u64.bits 4294967295).toNat : Int) = 0 := by
  rw [b2r (by omega) (by omega)]; omega
 have f8 : lo.fdiv 1073741824 = lo / 1073741824 := Int.fdiv_eq_ediv_of_nonneg _ (by decide)
 have g0 : h * 17179869184 % 18446744073709551616 = h * 17179869184 := by omega
 have g1 : IntKind.u64.wrap ((BitVec.ofInt IntKind.u64.bits (h * 17179869184) ||| BitVec.ofInt IntKind.u64.bits (lo / 1073741824)).toNat : Int) = h * 17179869184 + lo / 1073741824 :=
  b1b 34 (by decide) (by omega) (by omega) (by omega) (by omega) (by omega)
 have g2 : IntKind.u64.wrap (h * 17179869184) = h * 17179869184 := by rw [uw, g0]
 have g3 : (IntKind.u64.wrap (lo * 17179869184)).fdiv 4294967296 = lo % 1073741824 * 4 := by rw [Int.fdiv_eq_ediv_of_nonneg _ (by decide), uw]; omega
 have g4 : IntKind.u64.wrap ((BitVec.ofInt IntKind.u64.bits (IntKind.u64.wrap (lo * 17179869184)) &&& BitVec.ofInt IntKind.u64.bits 4294967295).toNat : Int) = 0 := by
  rw [b2r (by rw [uw]; omega) (by rw [uw]; omega), uw]; omega
 obtain ⟨A, hA⟩ : ∃ A, A = h * 17179869184 + lo / 1073741824 := ⟨_, rfl⟩
 obtain ⟨B, hB⟩ : ∃ B, B = lo % 1073741824 * 4 := ⟨_, rfl⟩
 have bA : 0 <= A /\ A <= 5153977935200000 := by omega
 have bB : 0 <= B /\ B < 4294967296 := by omega
 obtain ⟨q1, hq1⟩ : ∃ q1, q1 = A / D := ⟨_, rfl⟩
 obtain ⟨r1, hr1⟩ : ∃ r1, r1 = A % D := ⟨_, rfl⟩
 have e1 : D * q1 + r1 = A := by rw [hq1, hr1]; exact Int.mul_ediv_add_emod A D
 have b1 : 0 <= r1 /\ r1 < D := ⟨by rw [hr1]; exact Int.emod_nonneg _ (by omega), by rw [hr1]; exact Int.emod_lt_of_pos _ (by omega)⟩
 have bq1 : 0 <= q1 := by rw [hq1]; exact Int.ediv_nonneg bA.1 (by omega)
 have bq1' : q1 <= A := by rw [hq1]; exact Int.ediv_le_self _ bA.1
 have bq1'' : 3998000000 * q1 <= D * q1 := Int.mul_le_mul_of_nonneg_right bD.1 bq1
 have t1 : A.tdiv D = q1 := by rw [a5p _ bA.1, hq1]
 have t2 : IntKind.u64.wrap q1 = q1 := c4z bq1 (by omega)
 have t3 : q1 * D = D * q1 := Int.mul_comm ..
 have bP : 0 <= D * q1 := Int.mul_nonneg (by omega) bq1
 have t4 : IntKind.u64.wrap (A - IntKind.u64.wrap (D * q1)) = r1 := by rw [uw, uw]; omega
 refine Runs.mk a0k Tryz.call231 Tryz.func231 rfl Tryz.ntmps231 Tryz.results231 rfl ?_
 (repeat' (first
  | refine SP ?_
  | (apply a0a <;> intro hb <;> (try simp only [nS, nT, eq_self, reduceCtorEq] at hb))
  | refine a0q (by decide +kernel) ?_
  | refine a0c ?_
  | refine OB ?_
  | ((first | apply a0t (d4z c c0 c1) ); exact AS)
  | exact RT []
  | omega))
 refine And.intro (by simp only [f1, f2, f3, f5, f7]; omega) ?_
 (repeat' (first
  | refine SP ?_
  | refine a0c ?_
  ))
 refine a0p (σ := Unit) (fun x => True) (fun x => ⟨[(2, .val (.int .u64 (D * 4294967296))), (8, .val (.int .u64 34)), (9, .val (.int .u64 D)), (10, .val (.int .u64 0)), (11, .val (.int .u64 A)), (13, .val (.int .u64 B)), (14, .val (.int .u64 0)), (15, .val (.int .u64 q1)), (16, .val (.int .u64 r1))], []⟩) (fun x => 0) (()) ?_ ?_ ?_
 ·trivial
 ·(apply a04 []; (focus (iterate 2 (all_goals (repeat' (first | exact trivial | refine SP ?_ | refine And.intro ?_ ?_ | exact a0b _ _ | (refine And.left (b := True) ⟨?_, True.intro⟩; assumption) | refine a0f ?_ ))))); any_goals (apply a0e; rfl))
  all_goals (simp only [f1, f2, f3, f4, f5, f6, f7, f8, g2, g1, g3, g4, <- hA, <- hB, t1, t2, t3, t4])
 rintro _ -
 (repeat' (first
  | refine SP ?_
  | (apply a0a <;> intro hb <;> (try simp only [nS, nT, eq_self, reduceCtorEq] at hb))
  | refine a0c ?_
  | refine OB ?_
  | omega))
 ·exfalso
  have := ‹IntKind.u64.wrap (q1 * 0) > _›
  simp only [Int.mul_zero, uw] at this
  omega
 ·exfalso
  have := ‹IntKind.u64.wrap (q1 * 0) > _›
  simp only [Int.mul_zero, uw] at this
  omega
 obtain ⟨C, hC⟩ : ∃ C, C = r1 * 4294967296 + B := ⟨_, rfl⟩
 have bC : 0 <= C /\ C < D * 4294967296 := by omega
 have m1 : q1 * (D * 4294967296) = D * q1 * 4294967296 := by rw [<- Int.mul_assoc, Int.mul_comm q1 D]
 obtain ⟨P, hP⟩ : ∃ P, P = D * q1 := ⟨_, rfl⟩
 have k1 : IntKind.u64.wrap (IntKind.u64.wrap (IntKind.u64.wrap (A * 4294967296) + B) - IntKind.u64.wrap (q1 * (D * 4294967296))) = C := by
  rw [m1, <- hP]
  rw [<- hP] at e1
  simp only [uw]; omega
 obtain ⟨q0, hq0⟩ : ∃ q0, q0 = C / D := ⟨_, rfl⟩
 obtain ⟨r2, hr2⟩ : ∃ r2, r2 = C % D := ⟨_, rfl⟩
 have e2 : D * q0 + r2 = C := by rw [hq0, hr2]; exact Int.mul_ediv_add_emod C D
 have b2 : 0 <= r2 /\ r2 < D := ⟨by rw [hr2]; exact Int.emod_nonneg _ (by omega), by rw [hr2]; exact Int.emod_lt_of_pos _ (by omega)⟩
 have bq0 : 0 <= q0 := by rw [hq0]; exact Int.ediv_nonneg bC.1 (by omega)
 have bq0' : 3998000000 * q0 <= D * q0 := Int.mul_le_mul_of_nonneg_right bD.1 bq0
 have bq0'' : q0 < 4294967296 := by
  rw [hq0]; exact Int.ediv_lt_of_lt_mul (by omega) (by rw [Int.mul_comm]; exact bC.2)
 have t5 : C.tdiv D = q0 := by rw [a5p _ bC.1, hq0]
 have t6 : IntKind.u64.wrap q0 = q0 := c4z bq0 (by omega)
 have t7 : q0 * D = D * q0 := Int.mul_comm ..
 have bP0 : 0 <= D * q0 := Int.mul_nonneg (by omega) bq0
 obtain ⟨P0, hP0⟩ : ∃ P0, P0 = D * q0 := ⟨_, rfl⟩
 have t8 : IntKind.u64.wrap (C - IntKind.u64.wrap (D * q0)) = r2 := by rw [uw, uw]; omega
 refine a0p (σ := Unit) (fun x => True) (fun x => ⟨[(2, .val (.int .u64 (D * 4294967296))), (8, .val (.int .u64 34)), (9, .val (.int .u64 D)), (10, .val (.int .u64 0)), (14, .val (.int .u64 0)), (15, .val (.int .u64 q1)), (16, .val (.int .u64 r2)), (17, .val (.int .u64 C)), (18, .val (.int .u64 q0))], []⟩) (fun x => 0) (()) ?_ ?_ ?_
 ·trivial
 ·(apply a04 []; (focus (iterate 2 (all_goals (repeat' (first | exact trivial | refine SP ?_ | refine And.intro ?_ ?_ | exact a0b _ _ | ((refine a0f ?_); first | with_reducible rfl | omega | ((try simp only [wS]); omega) | rfl) | refine a0f ?_ ))))); any_goals (apply a0e; rfl))
  all_goals (simp only [k1, t5, t6, t7, t8])
 rintro _ -
 (repeat' (first
  | refine SP ?_
  | (apply a0a <;> intro hb <;> (try simp only [nS, nT, eq_self, reduceCtorEq] at hb))
  | refine a0c ?_
  | refine OB ?_
  | (apply a0v []; (focus (iterate 2 (all_goals (repeat' (first | exact a0g | exact trivial | refine And.intro ?_ ?_ | refine a0d ?_ ?_ | refine a1c ?_ | ((refine a0f ?_); first | with_reducible rfl | omega | ((try simp only [wS]); omega) | rfl) | refine a0f ?_ ))))); any_goals (apply a0e; rfl))
  | omega))
 all_goals first
  | (exfalso; have := ‹IntKind.u64.wrap (q0 * 0) > _›; simp only [Int.mul_zero, uw] at this; omega)
  | skip
 all_goals
  have m2 : q0 * (D * 4294967296) = P0 * 4294967296 := by rw [<- Int.mul_assoc, Int.mul_comm q0 D, hP0]
  have u1 : c * (q1 * 4294967296 + q0) * 4 = P * 4294967296 + P0 := by
   rw [hP, hP0, hD, Int.mul_add, Int.add_mul]
   congr 1
   ·rw [<- Int.mul_assoc, Int.mul_assoc _ 4294967296 4, Int.mul_comm 4294967296 4, <- Int.mul_assoc, Int.mul_assoc c q1 4, Int.mul_comm q1 4, <- Int.mul_assoc]
   ·rw [Int.mul_assoc, Int.mul_comm q0 4, <- Int.mul_assoc]
  rw [<- hP] at e1
  rw [<- hP0] at e2
  obtain ⟨X, hX⟩ : ∃ X, X = c * (q1 * 4294967296 + q0) := ⟨_, rfl⟩
  rw [<- hX] at u1
  have hN : h * 18446744073709551616 + lo = c * (q1 * 4294967296 + q0) + r2 / 4 := by rw [<- hX]; omega
  obtain ⟨v1, v2⟩ := b9l hN (by omega) (by omega)
 ·rw [v1]; simp only [uw]; omega
 ·rw [v2, f5, m2, Int.fdiv_eq_ediv_of_nonneg _ (by decide)]
  simp only [uw]
  omega
end Go.Vx.L58.MD
set_option maxRecDepth 100000
namespace Go.Vx.L58.MD
open Go Go.Proofs Go.Vx.L58
theorem c4o (d b : Int) (h0 : 0 <= d) (h1 : d <= 4503599627370496) (h2 : 0 <= b) (h3 : b <= 1000000000) : 0 <= d * b /\ d * b <= 4503599627370496000000000 :=
 ⟨Int.mul_nonneg h0 h2, by have := Int.mul_le_mul h1 h3 h2 (show (0:Int) <= 4503599627370496 by decide); omega⟩
theorem d3d (P c : Int) (h0 : 0 <= P) (h1 : P <= 4503599627370496000000000) (c0 : 999500000 <= c) (c1 : c <= 1000500000) :
  Runs Tryz.prog 231 [.val (.int .u64 (P / 18446744073709551616)), .val (.int .u64 (P % 18446744073709551616)), .val (.int .u64 c)] [] (Det (.tup [.val (.int .u64 (P / c)), .val (.int .u64 (P % c))]) []) := by
 by_cases h : P < 18446744073709551616
 ·have e1 : P / 18446744073709551616 = 0 := by omega
  have e2 : P % 18446744073709551616 = P := by omega
  rw [e1, e2]
  exact c65 P c h0 (by omega) (by omega) (by omega)
 ·have := c6q (P / 18446744073709551616) (P % 18446744073709551616) c (by omega) (by omega) (by omega) (by omega) c0 c1
  have e : P / 18446744073709551616 * 18446744073709551616 + P % 18446744073709551616 = P := by omega
  rw [e] at this
  exact this
theorem c70 {P c : Int} (h0 : 0 <= P) (h1 : P <= 4503599627370496000000000) (c0 : 999500000 <= c) : 0 <= P / c /\ P / c <= 4505852553647320 := by
 have k0 : 0 <= P / c := Int.ediv_nonneg h0 (by omega)
 refine ⟨k0, ?_⟩
 have e := Int.mul_ediv_add_emod P c
 have e1 := Int.emod_nonneg P (show c ≠ 0 by omega)
 have e2 : 999500000 * (P / c) <= c * (P / c) := Int.mul_le_mul_of_nonneg_right c0 k0
 omega
theorem c3m {d b c : Int} (h0 : 0 <= d) (h2 : 0 <= b) (hc : 0 < c) : (!(!decide (d < 0) == decide (b < 0)) == decide (c < 0)) = false := by
 have e1 : decide (b < 0) = false := decide_eq_false (by omega)
 have e2 : decide (c < 0) = false := decide_eq_false (by omega)
 have e3 : decide (d < 0) = false := decide_eq_false (by omega)
 rw [e1, e2, e3]
 rfl
set_option maxHeartbeats 1000000 in
theorem muldiv_pos (d b c : Int) (h0 : 0 <= d) (h1 : d <= 4503599627370496) (h2 : 0 <= b) (h3 : b <= 1000000000) (c0 : 999500000 <= c) (c1 : c <= 1000500000) :
  Runs Tryz.prog 228 [.val (.int .i64 d), .val (.int .i64 b), .val (.int .i64 c)] [] (Det (.tup [.val (.int .i64 (d * b / c)), .sb true]) []) := by
 obtain ⟨p0, p1⟩ := c4o d b h0 h1 h2 h3
 have m1 := b73 d b h0 h1 h2 h3
 have m2 := d3d (d * b) c p0 p1 c0 c1
 have s1 := size_pos d h0 (by omega)
 have s2 := size_pos b h2 (by omega)
 have s3 := size_pos c (by omega) (by omega)
 obtain ⟨k0, k1⟩ := c70 p0 p1 c0
 have hneg := c3m (d := d) h0 h2 (show 0 < c by omega)
 have hn' : (!decide (d < 0) == decide (b < 0)) = decide (c < 0) := by
  cases h1 : (!decide (d < 0) == decide (b < 0)) <;> cases h2 : decide (c < 0) <;> rw [h1, h2] at hneg <;> first | rfl | cases hneg
 generalize d * b = P at *
 generalize P % c = r at *
 generalize P / c = q at *
 have s4 := b4v q k0 (by omega)
 refine Runs.mk a0k Tryz.call228 Tryz.func228 rfl Tryz.ntmps228 Tryz.results228 rfl ?_
 (repeat' (first
  | refine SP ?_
  | (apply a0a <;> intro hb <;> (try simp only [nS, nT, eq_self, reduceCtorEq] at hb))
  | refine a0c ?_
  | ((first | apply a0t (s1) ); exact AS)
  | ((first | apply a0t (s2) ); exact AS)
  | ((first | apply a0t (s3) ); exact AS)
  | ((first | apply a0t (m1) ); exact AS)
  | ((first | apply a0t (m2) ); exact AS)
  | ((first | apply a0t (s4 _) ); (focus (iterate 2 (all_goals (repeat' (first | exact a0g | refine a0d ?_ ?_ | exact a0b _ _ | exact a1m rfl | refine a0f ?_ ))))))
  | (apply a0v []; (focus (iterate 2 (all_goals (repeat' (first | exact a0g | exact trivial | refine And.intro ?_ ?_ | refine a0d ?_ ?_ | refine a1c ?_ | exact a1m rfl | ((refine a0f ?_); first | with_reducible rfl | omega | ((try simp only [wS]); omega) | rfl) | refine a0f ?_ | refine a0w ?_ ))))); any_goals (apply a0e; rfl))
  | omega))
 all_goals first
  | (rw [hneg]; rfl)
  | exact absurd hn' ‹¬(!decide (d < 0) == decide (b < 0)) = decide (c < 0)›
  | (exfalso; rw [hneg] at hb; cases hb)
  | fail
end Go.Vx.L58.MD

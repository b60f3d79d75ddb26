/- Lemmas of a small executor for the model, and contracts of functions, used for the law that this claim proves. No condition. -/
import Derived.Test.YtblcjjlggfpehaaBC2
import Derived.Handy
set_option linter.unusedSimpArgs false
set_option linter.unusedVariables false
set_option maxRecDepth 100000
namespace Go.Vx.L53
open Go Go.Proofs
theorem relL_vals {ι : Lay} : ∀ (xs cs : List Value), relL ι (xs.map .val) cs → cs = xs
  | [], cs, h => by simpa [relL] using h
  | a :: r, cs, h => by
    simp only [List.map_cons, relL, rel] at h
    obtain ⟨c, r', rfl, rfl, h2⟩ := h
    rw [relL_vals r r' h2]
theorem runs_pure {P : Program} {g : FuncId} {xs : List Value} {v : Value} (hcall : ∀ ys w, (callFunc g ys).run P w = .ok (.enter g ys) w)
    (h : ∀ w, Calls P g xs.toArray w fun e w' => e = .returned v ∧ w' = w) : Runs P g (xs.map .val) [] (Det (.val v) []) := by
  refine ⟨hcall, fun w ι cs hW hdom hrel => ?_⟩
  obtain rfl := relL_vals xs cs hrel
  refine (h w).mono ?_
  rintro e w' ⟨rfl, rfl⟩
  refine ⟨_, _, _, ι, rfl, ⟨rfl, rfl⟩, by simp, rfl, fun _ _ => rfl, fun b hb => hdom b (by simp), fun b hb => ?_, hW⟩
  simp [blL, Blk.live] at hb
theorem shr_n (a : Int) (n : Nat) (hn : n ≤ 64) : a.fdiv (2 ^ (min n IntKind.u64.bits)) = a / 2 ^ n := by
  have : min n IntKind.u64.bits = n := Nat.min_eq_left hn
  rw [this, Int.fdiv_eq_ediv_of_nonneg _ (by exact_mod_cast Nat.zero_le _)]
theorem len_ok (c : Int) (h0 : 999500000 ≤ c) (h1 : c ≤ 1000500000) : Runs Try.prog 83 [.val (.int .u64 c)] [] (Det (.val (.int .i64 30)) []) := by
  have e1 : c.fdiv (2 ^ min (Int.toNat 16) IntKind.u64.bits) = c / 65536 := shr_n c 16 (by decide)
  have e2 : (c / 65536).fdiv (2 ^ min (Int.toNat 8) IntKind.u64.bits) = c / 65536 / 256 := shr_n _ 8 (by decide)
  have e3 : c / 65536 / 256 = 59 := by omega
  have e4 : IntKind.u8.wrap 59 = 59 := by decide
  refine Runs.mk tabOK Try.call83 Try.func83 rfl Try.ntmps83 Try.results83 rfl ?_
  (repeat' (first
    | (intro Q h; refine h ?_; clear h Q)
    | (refine bcase_mk (fun hb => ?_) (fun hb => ?_) <;> (try simp only [nS, nT, eq_self, reduceCtorEq] at hb))
    | refine seq_go ?_
    | refine And.intro (by first | omega | ((try simp only [wS]); omega) | rfl | decide) ?_
    | (apply ret_mk []; (focus (iterate 2 (all_goals (repeat' (first | exact trivial | refine And.intro ?_ ?_ | ((first | refine sub_int ?_ ); first | with_reducible rfl | omega | ((try simp only [wS]); omega) | rfl) ))))); (any_goals (apply okIx_mk; rfl)))
    ))
  · simp only [e1, e2, e3, e4]
    refine And.intro (by decide) ?_
    (repeat' (first
    | (intro Q h; refine h ?_; clear h Q)
    | refine And.intro (by first | omega | ((try simp only [wS]); omega) | rfl | decide) ?_
    | (apply ret_mk []; (focus (iterate 2 (all_goals (repeat' (first | exact trivial | refine And.intro ?_ ?_ | exact sub_refl_val _ _ ))))); (any_goals (apply okIx_mk; rfl)))
    ))
    all_goals (try (simp only [e1, e2, e3, e4]; decide +kernel))
theorem lz_ok (c : Int) (h0 : 999500000 ≤ c) (h1 : c ≤ 1000500000) : Runs Try.prog 95 [.val (.int .u64 c)] [] (Det (.val (.int .i64 34)) []) := by
  refine Runs.mk tabOK Try.call95 Try.func95 rfl Try.ntmps95 Try.results95 rfl ?_
  (repeat' (first
    | (intro Q h; refine h ?_; clear h Q)
    | ((first | apply call0 (len_ok c h0 h1) ); (focus ((iterate 2 (all_goals (repeat' (first | exact subL_nil | refine subL_cons ?_ ?_ | exact sub_refl_val _ _ )))); done)))
    | (apply ret_mk []; (focus (iterate 2 (all_goals (repeat' (first | exact trivial | refine And.intro ?_ ?_ | exact sub_refl_val _ _ ))))); (any_goals (apply okIx_mk; rfl)))
    ))
theorem div_unique {N c q r : Int} (h : N = c * q + r) (h0 : 0 ≤ r) (h1 : r < c) : N / c = q ∧ N % c = r := by
  subst h
  refine ⟨?_, ?_⟩
  · rw [Int.add_comm, Int.add_mul_ediv_left _ _ (by omega), Int.ediv_eq_zero_of_lt h0 h1, Int.zero_add]
  · rw [Int.add_comm, Int.add_mul_emod_self_left, Int.emod_eq_of_lt h0 h1]
set_option maxHeartbeats 1000000 in
theorem div64_hi (h lo c : Int) (h0 : 0 < h) (h1 : h ≤ 300000) (h2 : 0 ≤ lo) (h3 : lo < 18446744073709551616) (c0 : 999500000 ≤ c) (c1 : c ≤ 1000500000) :
    Runs Try.prog 87 [.val (.int .u64 h), .val (.int .u64 lo), .val (.int .u64 c)] [] (Det (.tup [.val (.int .u64 ((h * 18446744073709551616 + lo) / c)), .val (.int .u64 ((h * 18446744073709551616 + lo) % c))]) []) := by
  have f1 : IntKind.u64.wrap 34 = 34 := by rw [uw]; rfl
  have f5 : (2:Int) ^ (min (Int.toNat 34) IntKind.u64.bits) = 17179869184 := by decide +kernel
  have f6 : (2:Int) ^ (min (Int.toNat (IntKind.u64.wrap (64 - 34))) IntKind.u64.bits) = 1073741824 := by decide +kernel
  have f7 : (2:Int) ^ (min (Int.toNat 32) IntKind.u64.bits) = 4294967296 := by decide +kernel
  obtain ⟨D, hD⟩ : ∃ D, D = c * 4 := ⟨_, rfl⟩
  have bD : 3998000000 ≤ D ∧ D ≤ 4002000000 := by omega
  have f2 : IntKind.u64.wrap (c * 17179869184) = D * 4294967296 := by rw [uw]; omega
  have f3 : Int.fdiv (D * 4294967296) 4294967296 = D := by rw [Int.fdiv_eq_ediv_of_nonneg _ (by decide)]; omega
  have f4 : IntKind.u64.wrap ((BitVec.ofInt IntKind.u64.bits (D * 4294967296) &&& BitVec.ofInt IntKind.u64.bits 4294967295).toNat : Int) = 0 := by
    rw [and_mask (by omega) (by omega)]; omega
  have f8 : lo.fdiv 1073741824 = lo / 1073741824 := Int.fdiv_eq_ediv_of_nonneg _ (by decide)
  have g0 : h * 17179869184 % 18446744073709551616 = h * 17179869184 := by omega
  have g1 : IntKind.u64.wrap ((BitVec.ofInt IntKind.u64.bits (h * 17179869184) ||| BitVec.ofInt IntKind.u64.bits (lo / 1073741824)).toNat : Int) = h * 17179869184 + lo / 1073741824 := 
    or_add 34 (by decide) (by omega) (by omega) (by omega) (by omega) (by omega)
  have g2 : IntKind.u64.wrap (h * 17179869184) = h * 17179869184 := by rw [uw, g0]
  have g3 : (IntKind.u64.wrap (lo * 17179869184)).fdiv 4294967296 = lo % 1073741824 * 4 := by rw [Int.fdiv_eq_ediv_of_nonneg _ (by decide), uw]; omega
  have g4 : IntKind.u64.wrap ((BitVec.ofInt IntKind.u64.bits (IntKind.u64.wrap (lo * 17179869184)) &&& BitVec.ofInt IntKind.u64.bits 4294967295).toNat : Int) = 0 := by
    rw [and_mask (by rw [uw]; omega) (by rw [uw]; omega), uw]; omega
  obtain ⟨A, hA⟩ : ∃ A, A = h * 17179869184 + lo / 1073741824 := ⟨_, rfl⟩
  obtain ⟨B, hB⟩ : ∃ B, B = lo % 1073741824 * 4 := ⟨_, rfl⟩
  have bA : 0 ≤ A ∧ A ≤ 5153977935200000 := by omega
  have bB : 0 ≤ B ∧ B < 4294967296 := by omega
  obtain ⟨q1, hq1⟩ : ∃ q1, q1 = A / D := ⟨_, rfl⟩
  obtain ⟨r1, hr1⟩ : ∃ r1, r1 = A % D := ⟨_, rfl⟩
  have e1 : D * q1 + r1 = A := by rw [hq1, hr1]; exact Int.mul_ediv_add_emod A D
  have b1 : 0 ≤ r1 ∧ r1 < D := ⟨by rw [hr1]; exact Int.emod_nonneg _ (by omega), by rw [hr1]; exact Int.emod_lt_of_pos _ (by omega)⟩
  have bq1 : 0 ≤ q1 := by rw [hq1]; exact Int.ediv_nonneg bA.1 (by omega)
  have bq1' : q1 ≤ A := by rw [hq1]; exact Int.ediv_le_self _ bA.1
  have bq1'' : 3998000000 * q1 ≤ D * q1 := Int.mul_le_mul_of_nonneg_right bD.1 bq1
  have t1 : A.tdiv D = q1 := by rw [tdiv_nn _ bA.1, hq1]
  have t2 : IntKind.u64.wrap q1 = q1 := uw_id bq1 (by omega)
  have t3 : q1 * D = D * q1 := Int.mul_comm ..
  have bP : 0 ≤ D * q1 := Int.mul_nonneg (by omega) bq1
  have t4 : IntKind.u64.wrap (A - IntKind.u64.wrap (D * q1)) = r1 := by rw [uw, uw]; omega
  refine Runs.mk tabOK Try.call87 Try.func87 rfl Try.ntmps87 Try.results87 rfl ?_
  (repeat' (first
    | (intro Q h; refine h ?_; clear h Q)
    | (refine bcase_mk (fun hb => ?_) (fun hb => ?_) <;> (try simp only [nS, nT, eq_self, reduceCtorEq] at hb))
    | refine draw_mk (by decide +kernel) ?_
    | refine seq_go ?_
    | refine And.intro (by first | omega | ((try simp only [wS]); omega) | rfl | decide) ?_
    | ((first | apply call0 (lz_ok c c0 c1) ); (focus ((iterate 2 (all_goals (repeat' (first | exact subL_nil | refine subL_cons ?_ ?_ | exact sub_refl_val _ _ )))); done)))
    | (apply ret_mk []; (focus (iterate 2 (all_goals (repeat' (first | exact subL_nil | exact trivial | refine And.intro ?_ ?_ | refine subL_cons ?_ ?_ | refine sub_tup ?_ | ((first | refine sub_int ?_ ); first | with_reducible rfl | omega | ((try simp only [wS]); omega) | rfl) ))))); (any_goals (apply okIx_mk; rfl)))
    | omega))
  refine And.intro (by simp only [f1, f2, f3, f5, f7]; omega) ?_
  (repeat' (first
    | (intro Q h; refine h ?_; clear h Q)
    | refine seq_go ?_
    ))
  refine loop_inv (σ := Unit) (fun x => True) (fun x => ⟨[(2, .val (.int .u64 (D * 4294967296))), (8, .val (.int .u64 34)), (9, .val (.int .u64 D)), (10, .val (.int .u64 0)), (11, .val (.int .u64 A)), (13, .val (.int .u64 B)), (14, .val (.int .u64 0)), (15, .val (.int .u64 q1)), (16, .val (.int .u64 r1))], []⟩) (fun x => 0) (()) ?_ ?_ ?_
  · trivial
  · (apply le_mk []; (focus (iterate 2 (all_goals (repeat' (first | exact trivial | (intro Q h; refine h ?_; clear h Q) | refine And.intro ?_ ?_ | exact sub_refl_val _ _ | (refine And.left (b := True) ⟨?_, True.intro⟩; assumption) | refine sub_int ?_ ))))); (any_goals (apply okIx_mk; rfl)))
    all_goals (simp only [f1, f2, f3, f4, f5, f6, f7, f8, g2, g1, g3, g4, ← hA, ← hB, t1, t2, t3, t4])
  rintro _ -
  (repeat' (first
    | (intro Q h; refine h ?_; clear h Q)
    | (refine bcase_mk (fun hb => ?_) (fun hb => ?_) <;> (try simp only [nS, nT, eq_self, reduceCtorEq] at hb))
    | refine seq_go ?_
    | refine And.intro (by first | omega | ((try simp only [wS]); omega) | rfl | decide) ?_
    | omega))
  · exfalso
    have := ‹IntKind.u64.wrap (q1 * 0) > _›
    simp only [Int.mul_zero, uw] at this
    omega
  · exfalso
    have := ‹IntKind.u64.wrap (q1 * 0) > _›
    simp only [Int.mul_zero, uw] at this
    omega
  obtain ⟨C, hC⟩ : ∃ C, C = r1 * 4294967296 + B := ⟨_, rfl⟩
  have bC : 0 ≤ C ∧ C < D * 4294967296 := by omega
  have m1 : q1 * (D * 4294967296) = D * q1 * 4294967296 := by rw [← Int.mul_assoc, Int.mul_comm q1 D]
  obtain ⟨P, hP⟩ : ∃ P, P = D * q1 := ⟨_, rfl⟩
  have k1 : IntKind.u64.wrap (IntKind.u64.wrap (IntKind.u64.wrap (A * 4294967296) + B) - IntKind.u64.wrap (q1 * (D * 4294967296))) = C := by
    rw [m1, ← hP]
    rw [← hP] at e1
    simp only [uw]; omega
  obtain ⟨q0, hq0⟩ : ∃ q0, q0 = C / D := ⟨_, rfl⟩
  obtain ⟨r2, hr2⟩ : ∃ r2, r2 = C % D := ⟨_, rfl⟩
  have e2 : D * q0 + r2 = C := by rw [hq0, hr2]; exact Int.mul_ediv_add_emod C D
  have b2 : 0 ≤ r2 ∧ r2 < D := ⟨by rw [hr2]; exact Int.emod_nonneg _ (by omega), by rw [hr2]; exact Int.emod_lt_of_pos _ (by omega)⟩
  have bq0 : 0 ≤ q0 := by rw [hq0]; exact Int.ediv_nonneg bC.1 (by omega)
  have bq0' : 3998000000 * q0 ≤ D * q0 := Int.mul_le_mul_of_nonneg_right bD.1 bq0
  have bq0'' : q0 < 4294967296 := by
    rw [hq0]; exact Int.ediv_lt_of_lt_mul (by omega) (by rw [Int.mul_comm]; exact bC.2)
  have t5 : C.tdiv D = q0 := by rw [tdiv_nn _ bC.1, hq0]
  have t6 : IntKind.u64.wrap q0 = q0 := uw_id bq0 (by omega)
  have t7 : q0 * D = D * q0 := Int.mul_comm ..
  have bP0 : 0 ≤ D * q0 := Int.mul_nonneg (by omega) bq0
  obtain ⟨P0, hP0⟩ : ∃ P0, P0 = D * q0 := ⟨_, rfl⟩
  have t8 : IntKind.u64.wrap (C - IntKind.u64.wrap (D * q0)) = r2 := by rw [uw, uw]; omega
  refine loop_inv (σ := Unit) (fun x => True) (fun x => ⟨[(2, .val (.int .u64 (D * 4294967296))), (8, .val (.int .u64 34)), (9, .val (.int .u64 D)), (10, .val (.int .u64 0)), (14, .val (.int .u64 0)), (15, .val (.int .u64 q1)), (16, .val (.int .u64 r2)), (17, .val (.int .u64 C)), (18, .val (.int .u64 q0))], []⟩) (fun x => 0) (()) ?_ ?_ ?_
  · trivial
  · (apply le_mk []; (focus (iterate 2 (all_goals (repeat' (first | exact trivial | (intro Q h; refine h ?_; clear h Q) | refine And.intro ?_ ?_ | exact sub_refl_val _ _ | ((first | refine sub_int ?_ ); first | with_reducible rfl | omega | ((try simp only [wS]); omega) | rfl) | refine sub_int ?_ ))))); (any_goals (apply okIx_mk; rfl)))
    all_goals (simp only [k1, t5, t6, t7, t8])
  rintro _ -
  (repeat' (first
    | (intro Q h; refine h ?_; clear h Q)
    | (refine bcase_mk (fun hb => ?_) (fun hb => ?_) <;> (try simp only [nS, nT, eq_self, reduceCtorEq] at hb))
    | refine seq_go ?_
    | refine And.intro (by first | omega | ((try simp only [wS]); omega) | rfl | decide) ?_
    | (apply ret_mk []; (focus (iterate 2 (all_goals (repeat' (first | exact subL_nil | exact trivial | refine And.intro ?_ ?_ | refine subL_cons ?_ ?_ | refine sub_tup ?_ | ((first | refine sub_int ?_ ); first | with_reducible rfl | omega | ((try simp only [wS]); omega) | rfl) | refine sub_int ?_ ))))); (any_goals (apply okIx_mk; rfl)))
    | omega))
  all_goals first
    | (exfalso; have := ‹IntKind.u64.wrap (q0 * 0) > _›; simp only [Int.mul_zero, uw] at this; omega)
    | skip
  all_goals
    have m2 : q0 * (D * 4294967296) = P0 * 4294967296 := by rw [← Int.mul_assoc, Int.mul_comm q0 D, hP0]
    have u1 : c * (q1 * 4294967296 + q0) * 4 = P * 4294967296 + P0 := by
      rw [hP, hP0, hD, Int.mul_add, Int.add_mul]
      congr 1
      · rw [← Int.mul_assoc, Int.mul_assoc _ 4294967296 4, Int.mul_comm 4294967296 4, ← Int.mul_assoc, Int.mul_assoc c q1 4, Int.mul_comm q1 4, ← Int.mul_assoc]
      · rw [Int.mul_assoc, Int.mul_comm q0 4, ← Int.mul_assoc]
    rw [← hP] at e1
    rw [← hP0] at e2
    obtain ⟨X, hX⟩ : ∃ X, X = c * (q1 * 4294967296 + q0) := ⟨_, rfl⟩
    rw [← hX] at u1
    have hN : h * 18446744073709551616 + lo = c * (q1 * 4294967296 + q0) + r2 / 4 := by rw [← hX]; omega
    obtain ⟨v1, v2⟩ := div_unique hN (by omega) (by omega)
  · rw [v1]; simp only [uw]; omega
  · rw [v2, f5, m2, Int.fdiv_eq_ediv_of_nonneg _ (by decide)]
    simp only [uw]
    omega
end Go.Vx.L53

/- Lemmas of a small executor for the model, and contracts of functions, used for the law that this claim proves. No condition. -/
import Derived.Test.YtodbfpjjahpahaaGreatDoorDW3
import Derived.Test.YtodbfpjjahpahaaGreatDoorDPTA
set_option linter.unusedSimpArgs false
set_option linter.unusedVariables false
set_option maxRecDepth 100000
namespace Go.Vx.L58
open Go Go.Proofs Go.Vx.L58.PT
abbrev usF (n p : Int) : Int := n * 1000000000 / (1000000000 + p)
theorem usF_bd {n p : Int} (h0 : 0 ≤ n) (h1 : n ≤ 2251799813685248) (hp : -500000 ≤ p ∧ p ≤ 500000) : 0 ≤ usF n p ∧ usF n p ≤ 2 * n := by
 refine ⟨Int.ediv_nonneg (by omega) (by omega), ?_⟩
 have h : usF n p < 2 * n + 1 := by
  refine Int.ediv_lt_of_lt_mul (by omega) ?_
  have : (2 * n + 1) * 999500000 ≤ (2 * n + 1) * (1000000000 + p) := Int.mul_le_mul_of_nonneg_left (by omega) (by omega)
  omega
 omega
theorem unscale_ok (n p : Int) (h0 : 0 ≤ n) (h1 : n ≤ 2251799813685248) (hp : -500000 ≤ p ∧ p ≤ 500000) :
  Runs Tryz.prog 226 [.val (.int .i64 n), .val (.int .i64 p)] [] (Det (.tup [.val (.int .i64 (usF n p)), .sb true]) []) := by
 have m := MD.muldiv_pos n 1000000000 (1000000000 + p) h0 (by omega) (by omega) (by omega) (by omega) (by omega)
 have w : IntKind.i64.wrap (1000000000 + p) = 1000000000 + p := by rw [IntKind.wrap_i64]; omega
 unfold usF
 rw [← w] at m ⊢
 refine Runs.mk tabOK Tryz.call226 Tryz.func226 rfl Tryz.ntmps226 Tryz.results226 rfl ?_
 (repeat' (first
  | (intro Q h; refine h ?_; clear h Q)
  | (refine bcase_mk (fun hb => ?_) (fun hb => ?_) <;> (try simp only [nS, nT, eq_self, reduceCtorEq] at hb) <;> (try (exfalso; omega)))
  | refine seq_go ?_
  | ((first | apply call0 (m) ); exact AS)
  | (apply ret_mk []; exact AS; any_goals (apply okIx_mk; rfl))
  ))
theorem stay_ok (a b p : Int) (ha : -4503599627370496 ≤ a ∧ a ≤ 4503599627370496) (hb : -4503599627370496 ≤ b ∧ b ≤ 4503599627370496) (hab : a ≤ b) (h1 : b - a ≤ 2251799813685248) (hp : -500000 ≤ p ∧ p ≤ 500000) :
  Runs Tryz.prog 224 [.val (.int .i64 a), .val (.int .i64 b), .val (.int .i64 p)] [] (Det (.tup [.val (.int .i64 (usF (b - a) p)), .val (.int .i64 0)]) []) := by
 have m := unscale_ok (b - a) p (by omega) h1 hp
 have w : IntKind.i64.wrap (b - a) = b - a := by rw [IntKind.wrap_i64]; omega
 rw [← w] at m ⊢
 refine Runs.mk tabOK Tryz.call224 Tryz.func224 rfl Tryz.ntmps224 Tryz.results224 rfl ?_
 (repeat' (first
  | (intro Q h; refine h ?_; clear h Q)
  | (refine bcase_mk (fun hb => ?_) (fun hb => ?_) <;> (try simp only [nS, nT, eq_self, reduceCtorEq] at hb) <;> (try (exfalso; omega)))
  | refine seq_go ?_
  | ((first | apply call0 (m) ); exact AS)
  | (apply ret_mk []; exact AS; any_goals (apply okIx_mk; rfl))
  ))
abbrev mcL (m : Mg) : List AV := [.val (.int .i64 m.k), z64, z64, .val (.int .i64 m.corr), .val (.int .u64 m.clock), .val (.int .i64 1), .val (.int .i64 m.seq), z64, .val (.int .i64 m.sec), .val (.int .i64 m.nano), .val (.int .u64 m.rc), .val (.int .i64 m.rp), z64, z64, z64, z64, z64, z64, .val (.int .u64 0), z64, z64, z64]
set_option maxHeartbeats 4000000 in
theorem pass_ok (m : Mg) (h : MgOK m) (a b p : Int) (ha : -4503599627370496 ≤ a ∧ a ≤ 4503599627370496) (hb : -4503599627370496 ≤ b ∧ b ≤ 4503599627370496) (hab : a ≤ b) (h1 : b - a ≤ 17179869184) (hp : -500000 ≤ p ∧ p ≤ 500000)
  (h2 : 0 ≤ m.corr) (h3 : m.corr ≤ 1152921504606846976) :
  Runs Tryz.prog 223 [.ptr 0 22 0 0, .val (.int .i64 a), .val (.int .i64 b), .val (.int .i64 p)] [.var (mcL m)] (Det (.tup []) [.var (mcL (addM m (usF (b - a) p)))]) := by
 have hs := stay_ok a b p ha hb hab (by omega) hp
 have hu := usF_bd (n := b - a) (p := p) (by omega) (by omega) hp
 generalize usF (b - a) p = u at *
 have had := add2_ok m h u (by omega) (by omega) h2 h3
 refine Runs.mk tabOK Tryz.call223 Tryz.func223 rfl Tryz.ntmps223 Tryz.results223 rfl ?_
 (repeat' (first
  | (intro Q h; refine h ?_; clear h Q)
  | (refine bcase_mk (fun hb => ?_) (fun hb => ?_) <;> (try simp only [nS, nT, eq_self, reduceCtorEq] at hb) <;> (try (exfalso; omega)))
  | refine seq_go ?_
  | ((first | apply call0 (hs) ); exact AS)
  | ((first | apply call0 (had) ); exact AS)
  | (apply ret_mk [some 0]; exact AS; any_goals (apply okIx_mk; rfl))
  ))
end Go.Vx.L58

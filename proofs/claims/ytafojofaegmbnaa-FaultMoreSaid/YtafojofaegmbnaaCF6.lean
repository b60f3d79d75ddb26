/- Lemmas of a small executor for the model, and contracts of functions, used for the law that this claim proves. No condition. -/
import Derived.Test.YtafojofaegmbnaaCF5
set_option linter.unusedSimpArgs false
set_option linter.unusedVariables false
set_option maxRecDepth 100000
namespace Go.Vx.L55
open Go Go.Proofs
def dF (s p : Int) : Int := IntKind.i64.wrap (IntKind.u64.wrap (s - ofF p))
def lowF (s p : Int) : Int := fracF (p % 1000000000) + dF s p % 4294967296
def hiF (s p : Int) : Int := p / 1000000000 + dF s p / 4294967296 + lowF s p / 4294967296
def tvF (s p : Int) : Int := hiF s p * 1000000000 + (lowF s p % 4294967296 * 1000000000 + 4294967295) / 4294967296
/-- The instant of a timestamp. -/
def tF (s p : Int) : Int × Int := if p < -8000000000000000000 ∨ 8000000000000000000 < p then (0, 2)
  else if -8000000000000000000 ≤ tvF s p ∧ tvF s p ≤ 8000000000000000000 then (tvF s p, 0) else (0, 3)
theorem dF_bd (s p : Int) : -9223372036854775808 ≤ dF s p ∧ dF s p ≤ 9223372036854775807 := by unfold dF; rw [cw]; omega
theorem lowF_bd (s p : Int) : 0 ≤ lowF s p ∧ lowF s p < 8589934592 := by have := frac_bd p; unfold lowF; omega
theorem rsplit_ok (t : Int) (h : R64 t) : Runs Try.prog 99 [.val (.int .i64 t)] [] (Det (.tup [.val (.int .i64 (t / 1000000000)), .val (.int .i64 (t % 1000000000))]) []) := by
  refine Runs.mk tabOK Try.call99 Try.func99 rfl Try.ntmps99 Try.results99 rfl ?_
  (repeat' (first
    | (intro Q h; refine h ?_; clear h Q)
    | (with_reducible refine bcase_true ?_)
    | (with_reducible refine bcase_false ?_)
    | (refine bcase_mk (fun hb => ?_) (fun hb => ?_) <;> (try simp only [nS, nT, eq_self, reduceCtorEq] at hb))
    | refine draw_mk (by decide +kernel) ?_
    | refine seq_go ?_
    | refine And.intro (by first | omega | ((try simp only [wS]); omega) | rfl | decide) ?_
    | (apply ret_mk []; (focus (iterate 2 (all_goals (repeat' (first | exact sub_dead | exact subL_nil | exact trivial | (intro Q h; refine h ?_; clear h Q) | refine And.intro ?_ ?_ | refine subL_cons ?_ ?_ | refine sub_agg ?_ | refine sub_tup ?_ | exact sub_refl_val _ _ | (refine sub_int ?_; first | with_reducible rfl | omega | ((try simp only [wS]); omega) | rfl) | exact sub_sb rfl | exact sub_sbl rfl | with_reducible rfl | refine sub_int ?_ | refine sub_sb ?_ | refine sub_sbl ?_))))); (any_goals (apply okIx_mk; rfl)))
    | omega))
  all_goals
    simp only [tdivB, tmodB, cw] at *
    by_cases h0 : 0 ≤ t
    · simp only [if_pos h0] at * <;> omega
    · simp only [if_neg h0] at * <;> omega
theorem frac_eq (t : Int) : IntKind.i64.wrap ((IntKind.i64.wrap (t % 1000000000 * 4294967296)).tdiv 1000000000) = fracF (t % 1000000000) := by
  have e2 : IntKind.i64.wrap (t % 1000000000 * 4294967296) = t % 1000000000 * 4294967296 := by simp only [cw]; omega
  rw [e2, Int.tdiv_eq_ediv_of_nonneg (by omega)]; unfold fracF; rw [cw]; omega
theorem rof_ok (t : Int) (h : R64 t) : Runs Try.prog 86 [.val (.int .i64 t)] [] (Det (.val (.int .u64 (ofF t))) []) := by
  have d := rsplit_ok t h
  have hb := frac_bd t
  have e1 : IntKind.u64.wrap (IntKind.u64.wrap (t / 1000000000) * 4294967296) = t / 1000000000 % 4294967296 * 4294967296 := by simp only [uw]; omega
  have e2 : IntKind.u64.wrap (fracF (t % 1000000000)) = fracF (t % 1000000000) := by rw [uw]; omega
  refine Runs.mk tabOK Try.call86 Try.func86 rfl Try.ntmps86 Try.results86 rfl ?_
  (repeat' (first
    | (intro Q h; refine h ?_; clear h Q)
    | (with_reducible refine bcase_true ?_)
    | (with_reducible refine bcase_false ?_)
    | (refine bcase_mk (fun hb => ?_) (fun hb => ?_) <;> (try simp only [nS, nT, eq_self, reduceCtorEq] at hb))
    | refine draw_mk (by decide +kernel) ?_
    | refine seq_go ?_
    | refine And.intro (by first | omega | ((try simp only [wS]); omega) | rfl | decide) ?_
    | ((first | apply call0 (d) | apply calld0 (d)); (focus ((iterate 2 (all_goals (repeat' (first | exact sub_dead | exact subL_nil | exact trivial | (intro Q h; refine h ?_; clear h Q) | refine And.intro ?_ ?_ | refine subL_cons ?_ ?_ | refine sub_agg ?_ | refine sub_tup ?_ | exact sub_refl_val _ _ | (refine sub_int ?_; first | with_reducible rfl | omega | ((try simp only [wS]); omega) | rfl) | exact sub_sb rfl | exact sub_sbl rfl | with_reducible rfl | refine sub_int ?_ | refine sub_sb ?_ | refine sub_sbl ?_)))); done)))
    | (apply ret_mk []; (focus (iterate 2 (all_goals (repeat' (first | exact sub_dead | exact subL_nil | exact trivial | (intro Q h; refine h ?_; clear h Q) | refine And.intro ?_ ?_ | refine subL_cons ?_ ?_ | refine sub_agg ?_ | refine sub_tup ?_ | exact sub_refl_val _ _ | (refine sub_int ?_; first | with_reducible rfl | omega | ((try simp only [wS]); omega) | rfl) | exact sub_sb rfl | exact sub_sbl rfl | with_reducible rfl | refine sub_int ?_ | refine sub_sb ?_ | refine sub_sbl ?_))))); (any_goals (apply okIx_mk; rfl)))
    | omega))
  all_goals (rw [p32, frac_eq, e1, e2, uw]; unfold ofF; omega)
set_option maxHeartbeats 1000000 in
theorem time_ok (s p : Int) (hp : R64 p) : Runs Try.prog 26 [.val (.int .u64 s), .val (.int .i64 p)] [] (Det (.tup [.val (.int .i64 (tF s p).1), .val (.int .i64 (tF s p).2)]) []) := by
  by_cases h0 : p < -8000000000000000000 ∨ 8000000000000000000 < p
  · have e : tF s p = (0, 2) := if_pos h0
    rw [e]
    refine Runs.mk tabOK Try.call26 Try.func26 rfl Try.ntmps26 Try.results26 rfl ?_
    (repeat' (first
    | (intro Q h; refine h ?_; clear h Q)
    | (with_reducible refine bcase_true ?_)
    | (with_reducible refine bcase_false ?_)
    | (refine bcase_mk (fun hb => ?_) (fun hb => ?_) <;> (try simp only [nS, nT, eq_self, reduceCtorEq] at hb))
    | refine draw_mk (by decide +kernel) ?_
    | refine seq_go ?_
    | refine And.intro (by first | omega | ((try simp only [wS]); omega) | rfl | decide) ?_
    | (apply ret_mk []; (focus (iterate 2 (all_goals (repeat' (first | exact sub_dead | exact subL_nil | exact trivial | (intro Q h; refine h ?_; clear h Q) | refine And.intro ?_ ?_ | refine subL_cons ?_ ?_ | refine sub_agg ?_ | refine sub_tup ?_ | exact sub_refl_val _ _ | (refine sub_int ?_; first | with_reducible rfl | omega | ((try simp only [wS]); omega) | rfl) | exact sub_sb rfl | exact sub_sbl rfl | with_reducible rfl | refine sub_int ?_ | refine sub_sb ?_ | refine sub_sbl ?_))))); (any_goals (apply okIx_mk; rfl)))
    | omega))
  have d1 := split_ok p hp
  have d2 := ofs_ok p hp
  have d3 := diff_ok s (ofF p)
  rw [show IntKind.i64.wrap (IntKind.u64.wrap (s - ofF p)) = dF s p from rfl] at d3
  have b1 := dF_bd s p
  have b2 := lowF_bd s p
  have b3 := frac_bd p
  have e1 : IntKind.i64.wrap (fracF (p % 1000000000) + dF s p % 4294967296) = lowF s p := by rw [cw]; unfold lowF; omega
  have e2 : IntKind.i64.wrap (p / 1000000000 + IntKind.i64.wrap (dF s p / 4294967296 + lowF s p / 4294967296)) = hiF s p := by rw [cw, cw]; unfold hiF; omega
  have bh : -11000000000 ≤ hiF s p ∧ hiF s p ≤ 11000000000 := by unfold hiF; omega
  have d4 := mulB_ok (hiF s p) bh.1 bh.2
  have d5 := nanos_ok (lowF s p % 4294967296) (by omega) (by omega)
  have d6 := fun h => add_ok (okI (hiF s p * 1000000000)) ((lowF s p % 4294967296 * 1000000000 + 4294967295) / 4294967296) h (by omega)
  have e : tF s p = if -8000000000000000000 ≤ tvF s p ∧ tvF s p ≤ 8000000000000000000 then (tvF s p, 0) else (0, 3) := if_neg h0
  have et : tvF s p = hiF s p * 1000000000 + (lowF s p % 4294967296 * 1000000000 + 4294967295) / 4294967296 := rfl
  rw [e]
  by_cases h1 : -9223372036854775808 ≤ hiF s p * 1000000000 ∧ hiF s p * 1000000000 ≤ 9223372036854775807
  · have f1 : fitB (hiF s p * 1000000000) = true := decide_eq_true h1
    have f2 : okI (hiF s p * 1000000000) = hiF s p * 1000000000 := by unfold okI; rw [f1]; rfl
    rw [f1, f2] at d4
    rw [f2] at d6
    have d6 := d6 h1
    rw [← et] at d6
    by_cases h2 : -9223372036854775808 ≤ tvF s p ∧ tvF s p ≤ 9223372036854775807
    · have f3 : fitB (tvF s p) = true := decide_eq_true h2
      have f4 : okI (tvF s p) = tvF s p := by unfold okI; rw [f3]; rfl
      rw [f3, f4] at d6
      refine Runs.mk tabOK Try.call26 Try.func26 rfl Try.ntmps26 Try.results26 rfl ?_
      (repeat' (first
    | (intro Q h; refine h ?_; clear h Q)
    | refine bcase_t (by first | exact beq_self_eq_true _ | decide) ?_
    | refine bcase_f (by decide) ?_
    | (with_reducible refine bcase_true ?_)
    | (with_reducible refine bcase_false ?_)
    | (refine bcase_mk (fun hb => ?_) (fun hb => ?_) <;> (try simp only [nS, nT, eq_self, reduceCtorEq] at hb))
    | refine draw_mk (by decide +kernel) ?_
    | refine seq_go ?_
    | refine And.intro (by first | omega | ((try simp only [wS]); omega) | rfl | decide) ?_
    | (simp only [q32, fd32, iand_mask, e1, e2]; ((first | apply call0 (d4) | apply calld0 (d4)); (focus ((iterate 2 (all_goals (repeat' (first | exact sub_dead | exact subL_nil | exact trivial | (intro Q h; refine h ?_; clear h Q) | refine And.intro ?_ ?_ | refine subL_cons ?_ ?_ | refine sub_agg ?_ | refine sub_tup ?_ | exact sub_refl_val _ _ | (refine sub_int ?_; first | with_reducible rfl | omega | ((try simp only [wS]); omega) | rfl) | exact sub_sb rfl | exact sub_sbl rfl | with_reducible rfl | refine sub_int ?_ | refine sub_sb ?_ | refine sub_sbl ?_)))); done))))
    | (simp only [q32, fd32, iand_mask, e1, e2]; ((first | apply call0 (d5) | apply calld0 (d5)); (focus ((iterate 2 (all_goals (repeat' (first | exact sub_dead | exact subL_nil | exact trivial | (intro Q h; refine h ?_; clear h Q) | refine And.intro ?_ ?_ | refine subL_cons ?_ ?_ | refine sub_agg ?_ | refine sub_tup ?_ | exact sub_refl_val _ _ | (refine sub_int ?_; first | with_reducible rfl | omega | ((try simp only [wS]); omega) | rfl) | exact sub_sb rfl | exact sub_sbl rfl | with_reducible rfl | refine sub_int ?_ | refine sub_sb ?_ | refine sub_sbl ?_)))); done))))
    | ((first | apply call0 (d1) | apply calld0 (d1)); (focus ((iterate 2 (all_goals (repeat' (first | exact sub_dead | exact subL_nil | exact trivial | (intro Q h; refine h ?_; clear h Q) | refine And.intro ?_ ?_ | refine subL_cons ?_ ?_ | refine sub_agg ?_ | refine sub_tup ?_ | exact sub_refl_val _ _ | (refine sub_int ?_; first | with_reducible rfl | omega | ((try simp only [wS]); omega) | rfl) | exact sub_sb rfl | exact sub_sbl rfl | with_reducible rfl | refine sub_int ?_ | refine sub_sb ?_ | refine sub_sbl ?_)))); done)))
    | ((first | apply call0 (d2) | apply calld0 (d2)); (focus ((iterate 2 (all_goals (repeat' (first | exact sub_dead | exact subL_nil | exact trivial | (intro Q h; refine h ?_; clear h Q) | refine And.intro ?_ ?_ | refine subL_cons ?_ ?_ | refine sub_agg ?_ | refine sub_tup ?_ | exact sub_refl_val _ _ | (refine sub_int ?_; first | with_reducible rfl | omega | ((try simp only [wS]); omega) | rfl) | exact sub_sb rfl | exact sub_sbl rfl | with_reducible rfl | refine sub_int ?_ | refine sub_sb ?_ | refine sub_sbl ?_)))); done)))
    | ((first | apply call0 (d3) | apply calld0 (d3)); (focus ((iterate 2 (all_goals (repeat' (first | exact sub_dead | exact subL_nil | exact trivial | (intro Q h; refine h ?_; clear h Q) | refine And.intro ?_ ?_ | refine subL_cons ?_ ?_ | refine sub_agg ?_ | refine sub_tup ?_ | exact sub_refl_val _ _ | (refine sub_int ?_; first | with_reducible rfl | omega | ((try simp only [wS]); omega) | rfl) | exact sub_sb rfl | exact sub_sbl rfl | with_reducible rfl | refine sub_int ?_ | refine sub_sb ?_ | refine sub_sbl ?_)))); done)))
    | ((first | apply call0 (d4) | apply calld0 (d4)); (focus ((iterate 2 (all_goals (repeat' (first | exact sub_dead | exact subL_nil | exact trivial | (intro Q h; refine h ?_; clear h Q) | refine And.intro ?_ ?_ | refine subL_cons ?_ ?_ | refine sub_agg ?_ | refine sub_tup ?_ | exact sub_refl_val _ _ | (refine sub_int ?_; first | with_reducible rfl | omega | ((try simp only [wS]); omega) | rfl) | exact sub_sb rfl | exact sub_sbl rfl | with_reducible rfl | refine sub_int ?_ | refine sub_sb ?_ | refine sub_sbl ?_)))); done)))
    | ((first | apply call0 (d5) | apply calld0 (d5)); (focus ((iterate 2 (all_goals (repeat' (first | exact sub_dead | exact subL_nil | exact trivial | (intro Q h; refine h ?_; clear h Q) | refine And.intro ?_ ?_ | refine subL_cons ?_ ?_ | refine sub_agg ?_ | refine sub_tup ?_ | exact sub_refl_val _ _ | (refine sub_int ?_; first | with_reducible rfl | omega | ((try simp only [wS]); omega) | rfl) | exact sub_sb rfl | exact sub_sbl rfl | with_reducible rfl | refine sub_int ?_ | refine sub_sb ?_ | refine sub_sbl ?_)))); done)))
    | ((first | apply call0 (d6) | apply calld0 (d6)); (focus ((iterate 2 (all_goals (repeat' (first | exact sub_dead | exact subL_nil | exact trivial | (intro Q h; refine h ?_; clear h Q) | refine And.intro ?_ ?_ | refine subL_cons ?_ ?_ | refine sub_agg ?_ | refine sub_tup ?_ | exact sub_refl_val _ _ | (refine sub_int ?_; first | with_reducible rfl | omega | ((try simp only [wS]); omega) | rfl) | exact sub_sb rfl | exact sub_sbl rfl | with_reducible rfl | refine sub_int ?_ | refine sub_sb ?_ | refine sub_sbl ?_)))); done)))
    | (apply ret_mk []; (focus (iterate 2 (all_goals (repeat' (first | exact sub_dead | exact subL_nil | exact trivial | (intro Q h; refine h ?_; clear h Q) | refine And.intro ?_ ?_ | refine subL_cons ?_ ?_ | refine sub_agg ?_ | refine sub_tup ?_ | exact sub_refl_val _ _ | (refine sub_int ?_; first | with_reducible rfl | omega | ((try simp only [wS]); omega) | rfl) | exact sub_sb rfl | exact sub_sbl rfl | with_reducible rfl | refine sub_int ?_ | refine sub_sb ?_ | refine sub_sbl ?_))))); (any_goals (apply okIx_mk; rfl)))
    | omega))
      all_goals first | (rw [if_pos (by omega)]; done) | (rw [if_neg (by omega)]; done)
    · have f3 : fitB (tvF s p) = false := decide_eq_false h2
      have f4 : okI (tvF s p) = 0 := by unfold okI; rw [f3]; rfl
      rw [f3, f4] at d6
      refine Runs.mk tabOK Try.call26 Try.func26 rfl Try.ntmps26 Try.results26 rfl ?_
      (repeat' (first
    | (intro Q h; refine h ?_; clear h Q)
    | refine bcase_t (by first | exact beq_self_eq_true _ | decide) ?_
    | refine bcase_f (by decide) ?_
    | (with_reducible refine bcase_true ?_)
    | (with_reducible refine bcase_false ?_)
    | (refine bcase_mk (fun hb => ?_) (fun hb => ?_) <;> (try simp only [nS, nT, eq_self, reduceCtorEq] at hb))
    | refine draw_mk (by decide +kernel) ?_
    | refine seq_go ?_
    | refine And.intro (by first | omega | ((try simp only [wS]); omega) | rfl | decide) ?_
    | (simp only [q32, fd32, iand_mask, e1, e2]; ((first | apply call0 (d4) | apply calld0 (d4)); (focus ((iterate 2 (all_goals (repeat' (first | exact sub_dead | exact subL_nil | exact trivial | (intro Q h; refine h ?_; clear h Q) | refine And.intro ?_ ?_ | refine subL_cons ?_ ?_ | refine sub_agg ?_ | refine sub_tup ?_ | exact sub_refl_val _ _ | (refine sub_int ?_; first | with_reducible rfl | omega | ((try simp only [wS]); omega) | rfl) | exact sub_sb rfl | exact sub_sbl rfl | with_reducible rfl | refine sub_int ?_ | refine sub_sb ?_ | refine sub_sbl ?_)))); done))))
    | (simp only [q32, fd32, iand_mask, e1, e2]; ((first | apply call0 (d5) | apply calld0 (d5)); (focus ((iterate 2 (all_goals (repeat' (first | exact sub_dead | exact subL_nil | exact trivial | (intro Q h; refine h ?_; clear h Q) | refine And.intro ?_ ?_ | refine subL_cons ?_ ?_ | refine sub_agg ?_ | refine sub_tup ?_ | exact sub_refl_val _ _ | (refine sub_int ?_; first | with_reducible rfl | omega | ((try simp only [wS]); omega) | rfl) | exact sub_sb rfl | exact sub_sbl rfl | with_reducible rfl | refine sub_int ?_ | refine sub_sb ?_ | refine sub_sbl ?_)))); done))))
    | ((first | apply call0 (d1) | apply calld0 (d1)); (focus ((iterate 2 (all_goals (repeat' (first | exact sub_dead | exact subL_nil | exact trivial | (intro Q h; refine h ?_; clear h Q) | refine And.intro ?_ ?_ | refine subL_cons ?_ ?_ | refine sub_agg ?_ | refine sub_tup ?_ | exact sub_refl_val _ _ | (refine sub_int ?_; first | with_reducible rfl | omega | ((try simp only [wS]); omega) | rfl) | exact sub_sb rfl | exact sub_sbl rfl | with_reducible rfl | refine sub_int ?_ | refine sub_sb ?_ | refine sub_sbl ?_)))); done)))
    | ((first | apply call0 (d2) | apply calld0 (d2)); (focus ((iterate 2 (all_goals (repeat' (first | exact sub_dead | exact subL_nil | exact trivial | (intro Q h; refine h ?_; clear h Q) | refine And.intro ?_ ?_ | refine subL_cons ?_ ?_ | refine sub_agg ?_ | refine sub_tup ?_ | exact sub_refl_val _ _ | (refine sub_int ?_; first | with_reducible rfl | omega | ((try simp only [wS]); omega) | rfl) | exact sub_sb rfl | exact sub_sbl rfl | with_reducible rfl | refine sub_int ?_ | refine sub_sb ?_ | refine sub_sbl ?_)))); done)))
    | ((first | apply call0 (d3) | apply calld0 (d3)); (focus ((iterate 2 (all_goals (repeat' (first | exact sub_dead | exact subL_nil | exact trivial | (intro Q h; refine h ?_; clear h Q) | refine And.intro ?_ ?_ | refine subL_cons ?_ ?_ | refine sub_agg ?_ | refine sub_tup ?_ | exact sub_refl_val _ _ | (refine sub_int ?_; first | with_reducible rfl | omega | ((try simp only [wS]); omega) | rfl) | exact sub_sb rfl | exact sub_sbl rfl | with_reducible rfl | refine sub_int ?_ | refine sub_sb ?_ | refine sub_sbl ?_)))); done)))
    | ((first | apply call0 (d4) | apply calld0 (d4)); (focus ((iterate 2 (all_goals (repeat' (first | exact sub_dead | exact subL_nil | exact trivial | (intro Q h; refine h ?_; clear h Q) | refine And.intro ?_ ?_ | refine subL_cons ?_ ?_ | refine sub_agg ?_ | refine sub_tup ?_ | exact sub_refl_val _ _ | (refine sub_int ?_; first | with_reducible rfl | omega | ((try simp only [wS]); omega) | rfl) | exact sub_sb rfl | exact sub_sbl rfl | with_reducible rfl | refine sub_int ?_ | refine sub_sb ?_ | refine sub_sbl ?_)))); done)))
    | ((first | apply call0 (d5) | apply calld0 (d5)); (focus ((iterate 2 (all_goals (repeat' (first | exact sub_dead | exact subL_nil | exact trivial | (intro Q h; refine h ?_; clear h Q) | refine And.intro ?_ ?_ | refine subL_cons ?_ ?_ | refine sub_agg ?_ | refine sub_tup ?_ | exact sub_refl_val _ _ | (refine sub_int ?_; first | with_reducible rfl | omega | ((try simp only [wS]); omega) | rfl) | exact sub_sb rfl | exact sub_sbl rfl | with_reducible rfl | refine sub_int ?_ | refine sub_sb ?_ | refine sub_sbl ?_)))); done)))
    | ((first | apply call0 (d6) | apply calld0 (d6)); (focus ((iterate 2 (all_goals (repeat' (first | exact sub_dead | exact subL_nil | exact trivial | (intro Q h; refine h ?_; clear h Q) | refine And.intro ?_ ?_ | refine subL_cons ?_ ?_ | refine sub_agg ?_ | refine sub_tup ?_ | exact sub_refl_val _ _ | (refine sub_int ?_; first | with_reducible rfl | omega | ((try simp only [wS]); omega) | rfl) | exact sub_sb rfl | exact sub_sbl rfl | with_reducible rfl | refine sub_int ?_ | refine sub_sb ?_ | refine sub_sbl ?_)))); done)))
    | (apply ret_mk []; (focus (iterate 2 (all_goals (repeat' (first | exact sub_dead | exact subL_nil | exact trivial | (intro Q h; refine h ?_; clear h Q) | refine And.intro ?_ ?_ | refine subL_cons ?_ ?_ | refine sub_agg ?_ | refine sub_tup ?_ | exact sub_refl_val _ _ | (refine sub_int ?_; first | with_reducible rfl | omega | ((try simp only [wS]); omega) | rfl) | exact sub_sb rfl | exact sub_sbl rfl | with_reducible rfl | refine sub_int ?_ | refine sub_sb ?_ | refine sub_sbl ?_))))); (any_goals (apply okIx_mk; rfl)))
    | omega))
      all_goals first | (rw [if_pos (by omega)]; done) | (rw [if_neg (by omega)]; done)
  · have f1 : fitB (hiF s p * 1000000000) = false := decide_eq_false h1
    have f2 : okI (hiF s p * 1000000000) = 0 := by unfold okI; rw [f1]; rfl
    rw [f1, f2] at d4
    clear d6
    refine Runs.mk tabOK Try.call26 Try.func26 rfl Try.ntmps26 Try.results26 rfl ?_
    (repeat' (first
    | (intro Q h; refine h ?_; clear h Q)
    | refine bcase_t (by first | exact beq_self_eq_true _ | decide) ?_
    | refine bcase_f (by decide) ?_
    | (with_reducible refine bcase_true ?_)
    | (with_reducible refine bcase_false ?_)
    | (refine bcase_mk (fun hb => ?_) (fun hb => ?_) <;> (try simp only [nS, nT, eq_self, reduceCtorEq] at hb))
    | refine draw_mk (by decide +kernel) ?_
    | refine seq_go ?_
    | refine And.intro (by first | omega | ((try simp only [wS]); omega) | rfl | decide) ?_
    | (simp only [q32, fd32, iand_mask, e1, e2]; ((first | apply call0 (d4) | apply calld0 (d4)); (focus ((iterate 2 (all_goals (repeat' (first | exact sub_dead | exact subL_nil | exact trivial | (intro Q h; refine h ?_; clear h Q) | refine And.intro ?_ ?_ | refine subL_cons ?_ ?_ | refine sub_agg ?_ | refine sub_tup ?_ | exact sub_refl_val _ _ | (refine sub_int ?_; first | with_reducible rfl | omega | ((try simp only [wS]); omega) | rfl) | exact sub_sb rfl | exact sub_sbl rfl | with_reducible rfl | refine sub_int ?_ | refine sub_sb ?_ | refine sub_sbl ?_)))); done))))
    | (simp only [q32, fd32, iand_mask, e1, e2]; ((first | apply call0 (d5) | apply calld0 (d5)); (focus ((iterate 2 (all_goals (repeat' (first | exact sub_dead | exact subL_nil | exact trivial | (intro Q h; refine h ?_; clear h Q) | refine And.intro ?_ ?_ | refine subL_cons ?_ ?_ | refine sub_agg ?_ | refine sub_tup ?_ | exact sub_refl_val _ _ | (refine sub_int ?_; first | with_reducible rfl | omega | ((try simp only [wS]); omega) | rfl) | exact sub_sb rfl | exact sub_sbl rfl | with_reducible rfl | refine sub_int ?_ | refine sub_sb ?_ | refine sub_sbl ?_)))); done))))
    | ((first | apply call0 (d1) | apply calld0 (d1)); (focus ((iterate 2 (all_goals (repeat' (first | exact sub_dead | exact subL_nil | exact trivial | (intro Q h; refine h ?_; clear h Q) | refine And.intro ?_ ?_ | refine subL_cons ?_ ?_ | refine sub_agg ?_ | refine sub_tup ?_ | exact sub_refl_val _ _ | (refine sub_int ?_; first | with_reducible rfl | omega | ((try simp only [wS]); omega) | rfl) | exact sub_sb rfl | exact sub_sbl rfl | with_reducible rfl | refine sub_int ?_ | refine sub_sb ?_ | refine sub_sbl ?_)))); done)))
    | ((first | apply call0 (d2) | apply calld0 (d2)); (focus ((iterate 2 (all_goals (repeat' (first | exact sub_dead | exact subL_nil | exact trivial | (intro Q h; refine h ?_; clear h Q) | refine And.intro ?_ ?_ | refine subL_cons ?_ ?_ | refine sub_agg ?_ | refine sub_tup ?_ | exact sub_refl_val _ _ | (refine sub_int ?_; first | with_reducible rfl | omega | ((try simp only [wS]); omega) | rfl) | exact sub_sb rfl | exact sub_sbl rfl | with_reducible rfl | refine sub_int ?_ | refine sub_sb ?_ | refine sub_sbl ?_)))); done)))
    | ((first | apply call0 (d3) | apply calld0 (d3)); (focus ((iterate 2 (all_goals (repeat' (first | exact sub_dead | exact subL_nil | exact trivial | (intro Q h; refine h ?_; clear h Q) | refine And.intro ?_ ?_ | refine subL_cons ?_ ?_ | refine sub_agg ?_ | refine sub_tup ?_ | exact sub_refl_val _ _ | (refine sub_int ?_; first | with_reducible rfl | omega | ((try simp only [wS]); omega) | rfl) | exact sub_sb rfl | exact sub_sbl rfl | with_reducible rfl | refine sub_int ?_ | refine sub_sb ?_ | refine sub_sbl ?_)))); done)))
    | ((first | apply call0 (d4) | apply calld0 (d4)); (focus ((iterate 2 (all_goals (repeat' (first | exact sub_dead | exact subL_nil | exact trivial | (intro Q h; refine h ?_; clear h Q) | refine And.intro ?_ ?_ | refine subL_cons ?_ ?_ | refine sub_agg ?_ | refine sub_tup ?_ | exact sub_refl_val _ _ | (refine sub_int ?_; first | with_reducible rfl | omega | ((try simp only [wS]); omega) | rfl) | exact sub_sb rfl | exact sub_sbl rfl | with_reducible rfl | refine sub_int ?_ | refine sub_sb ?_ | refine sub_sbl ?_)))); done)))
    | ((first | apply call0 (d5) | apply calld0 (d5)); (focus ((iterate 2 (all_goals (repeat' (first | exact sub_dead | exact subL_nil | exact trivial | (intro Q h; refine h ?_; clear h Q) | refine And.intro ?_ ?_ | refine subL_cons ?_ ?_ | refine sub_agg ?_ | refine sub_tup ?_ | exact sub_refl_val _ _ | (refine sub_int ?_; first | with_reducible rfl | omega | ((try simp only [wS]); omega) | rfl) | exact sub_sb rfl | exact sub_sbl rfl | with_reducible rfl | refine sub_int ?_ | refine sub_sb ?_ | refine sub_sbl ?_)))); done)))
    | (apply ret_mk []; (focus (iterate 2 (all_goals (repeat' (first | exact sub_dead | exact subL_nil | exact trivial | (intro Q h; refine h ?_; clear h Q) | refine And.intro ?_ ?_ | refine subL_cons ?_ ?_ | refine sub_agg ?_ | refine sub_tup ?_ | exact sub_refl_val _ _ | (refine sub_int ?_; first | with_reducible rfl | omega | ((try simp only [wS]); omega) | rfl) | exact sub_sb rfl | exact sub_sbl rfl | with_reducible rfl | refine sub_int ?_ | refine sub_sb ?_ | refine sub_sbl ?_))))); (any_goals (apply okIx_mk; rfl)))
    | omega))
    all_goals first | (rw [if_pos (by omega)]; done) | (rw [if_neg (by omega)]; done)
set_option maxHeartbeats 1000000 in
theorem rtime_ok (s p : Int) (hp : R64 p) : Runs Try.prog 85 [.val (.int .u64 s), .val (.int .i64 p)] [] (Det (.tup [.val (.int .i64 (tF s p).1), .val (.int .i64 (tF s p).2)]) []) := by
  by_cases h0 : p < -8000000000000000000 ∨ 8000000000000000000 < p
  · have e : tF s p = (0, 2) := if_pos h0
    rw [e]
    refine Runs.mk tabOK Try.call85 Try.func85 rfl Try.ntmps85 Try.results85 rfl ?_
    (repeat' (first
    | (intro Q h; refine h ?_; clear h Q)
    | (with_reducible refine bcase_true ?_)
    | (with_reducible refine bcase_false ?_)
    | (refine bcase_mk (fun hb => ?_) (fun hb => ?_) <;> (try simp only [nS, nT, eq_self, reduceCtorEq] at hb))
    | refine draw_mk (by decide +kernel) ?_
    | refine seq_go ?_
    | refine And.intro (by first | omega | ((try simp only [wS]); omega) | rfl | decide) ?_
    | (apply ret_mk []; (focus (iterate 2 (all_goals (repeat' (first | exact sub_dead | exact subL_nil | exact trivial | (intro Q h; refine h ?_; clear h Q) | refine And.intro ?_ ?_ | refine subL_cons ?_ ?_ | refine sub_agg ?_ | refine sub_tup ?_ | exact sub_refl_val _ _ | (refine sub_int ?_; first | with_reducible rfl | omega | ((try simp only [wS]); omega) | rfl) | exact sub_sb rfl | exact sub_sbl rfl | with_reducible rfl | refine sub_int ?_ | refine sub_sb ?_ | refine sub_sbl ?_))))); (any_goals (apply okIx_mk; rfl)))
    | omega))
  have d1 := rsplit_ok p hp
  have d2 := rof_ok p hp
  have d3 := rdiff_ok s (ofF p)
  rw [show IntKind.i64.wrap (IntKind.u64.wrap (s - ofF p)) = dF s p from rfl] at d3
  have b1 := dF_bd s p
  have b2 := lowF_bd s p
  have b3 := frac_bd p
  have e1 : IntKind.i64.wrap (fracF (p % 1000000000) + dF s p % 4294967296) = lowF s p := by rw [cw]; unfold lowF; omega
  have e2 : IntKind.i64.wrap (IntKind.i64.wrap (p / 1000000000 + dF s p / 4294967296) + lowF s p / 4294967296) = hiF s p := by rw [cw, cw]; unfold hiF; omega
  have bh : -11000000000 ≤ hiF s p ∧ hiF s p ≤ 11000000000 := by unfold hiF; omega
  have d5 := above_ok (lowF s p % 4294967296) (by omega) (by omega)
  have e : tF s p = if -8000000000000000000 ≤ tvF s p ∧ tvF s p ≤ 8000000000000000000 then (tvF s p, 0) else (0, 3) := if_neg h0
  have et : tvF s p = hiF s p * 1000000000 + (lowF s p % 4294967296 * 1000000000 + 4294967295) / 4294967296 := rfl
  have ew : ∀ x : Int, x * 1000000000 = x * 1000000000 := fun _ => rfl
  have e5 : hiF s p ≤ 8000000000 → -8000000001 ≤ hiF s p → IntKind.i64.wrap (IntKind.i64.wrap (hiF s p * 1000000000) + (lowF s p % 4294967296 * 1000000000 + 4294967295) / 4294967296) = tvF s p := fun h1 h2 => by
    rw [et]; simp only [cw]; omega
  rw [e]
  refine Runs.mk tabOK Try.call85 Try.func85 rfl Try.ntmps85 Try.results85 rfl ?_
  (repeat' (first
    | (intro Q h; refine h ?_; clear h Q)
    | refine bcase_t (by first | exact beq_self_eq_true _ | decide) ?_
    | refine bcase_f (by decide) ?_
    | (with_reducible refine bcase_true ?_)
    | (with_reducible refine bcase_false ?_)
    | (refine bcase_mk (fun hb => ?_) (fun hb => ?_) <;> (try simp only [nS, nT, eq_self, reduceCtorEq] at hb))
    | refine draw_mk (by decide +kernel) ?_
    | refine seq_go ?_
    | refine And.intro (by first | omega | ((try simp only [wS]); omega) | rfl | decide) ?_
    | (simp only [q32, fd32, iand_mask, frac_eq, e1, e2]; ((first | apply call0 (d5) | apply calld0 (d5)); (focus ((iterate 2 (all_goals (repeat' (first | exact sub_dead | exact subL_nil | exact trivial | (intro Q h; refine h ?_; clear h Q) | refine And.intro ?_ ?_ | refine subL_cons ?_ ?_ | refine sub_agg ?_ | refine sub_tup ?_ | exact sub_refl_val _ _ | (refine sub_int ?_; first | with_reducible rfl | omega | ((try simp only [wS]); omega) | rfl) | exact sub_sb rfl | exact sub_sbl rfl | with_reducible rfl | refine sub_int ?_ | refine sub_sb ?_ | refine sub_sbl ?_)))); done))))
    | ((first | apply call0 (d1) | apply calld0 (d1)); (focus ((iterate 2 (all_goals (repeat' (first | exact sub_dead | exact subL_nil | exact trivial | (intro Q h; refine h ?_; clear h Q) | refine And.intro ?_ ?_ | refine subL_cons ?_ ?_ | refine sub_agg ?_ | refine sub_tup ?_ | exact sub_refl_val _ _ | (refine sub_int ?_; first | with_reducible rfl | omega | ((try simp only [wS]); omega) | rfl) | exact sub_sb rfl | exact sub_sbl rfl | with_reducible rfl | refine sub_int ?_ | refine sub_sb ?_ | refine sub_sbl ?_)))); done)))
    | ((first | apply call0 (d2) | apply calld0 (d2)); (focus ((iterate 2 (all_goals (repeat' (first | exact sub_dead | exact subL_nil | exact trivial | (intro Q h; refine h ?_; clear h Q) | refine And.intro ?_ ?_ | refine subL_cons ?_ ?_ | refine sub_agg ?_ | refine sub_tup ?_ | exact sub_refl_val _ _ | (refine sub_int ?_; first | with_reducible rfl | omega | ((try simp only [wS]); omega) | rfl) | exact sub_sb rfl | exact sub_sbl rfl | with_reducible rfl | refine sub_int ?_ | refine sub_sb ?_ | refine sub_sbl ?_)))); done)))
    | ((first | apply call0 (d3) | apply calld0 (d3)); (focus ((iterate 2 (all_goals (repeat' (first | exact sub_dead | exact subL_nil | exact trivial | (intro Q h; refine h ?_; clear h Q) | refine And.intro ?_ ?_ | refine subL_cons ?_ ?_ | refine sub_agg ?_ | refine sub_tup ?_ | exact sub_refl_val _ _ | (refine sub_int ?_; first | with_reducible rfl | omega | ((try simp only [wS]); omega) | rfl) | exact sub_sb rfl | exact sub_sbl rfl | with_reducible rfl | refine sub_int ?_ | refine sub_sb ?_ | refine sub_sbl ?_)))); done)))
    | ((first | apply call0 (d5) | apply calld0 (d5)); (focus ((iterate 2 (all_goals (repeat' (first | exact sub_dead | exact subL_nil | exact trivial | (intro Q h; refine h ?_; clear h Q) | refine And.intro ?_ ?_ | refine subL_cons ?_ ?_ | refine sub_agg ?_ | refine sub_tup ?_ | exact sub_refl_val _ _ | (refine sub_int ?_; first | with_reducible rfl | omega | ((try simp only [wS]); omega) | rfl) | exact sub_sb rfl | exact sub_sbl rfl | with_reducible rfl | refine sub_int ?_ | refine sub_sb ?_ | refine sub_sbl ?_)))); done)))
    | (apply ret_mk []; (focus (iterate 2 (all_goals (repeat' (first | exact sub_dead | exact subL_nil | exact trivial | (intro Q h; refine h ?_; clear h Q) | refine And.intro ?_ ?_ | refine subL_cons ?_ ?_ | refine sub_agg ?_ | refine sub_tup ?_ | exact sub_refl_val _ _ | (refine sub_int ?_; first | with_reducible rfl | omega | ((try simp only [wS]); omega) | rfl) | exact sub_sb rfl | exact sub_sbl rfl | with_reducible rfl | refine sub_int ?_ | refine sub_sb ?_ | refine sub_sbl ?_))))); (any_goals (apply okIx_mk; rfl)))
    | omega))
  all_goals (simp only [q32, fd32, iand_mask, frac_eq, e1, e2] at *)
  all_goals (try rw [show IntKind.i64.wrap (IntKind.i64.wrap (0 - 8000000000) - 1) = -8000000001 from by decide +kernel] at *)
  all_goals (try rw [e5 (by omega) (by omega)] at *)
  all_goals first | (rw [if_pos (by omega)]; done) | (rw [if_neg (by omega)]; done)
end Go.Vx.L55

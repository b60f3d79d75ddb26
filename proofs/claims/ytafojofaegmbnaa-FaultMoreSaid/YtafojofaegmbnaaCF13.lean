/- Lemmas of a small executor for the model, and contracts of functions, used for the law that this claim proves. No condition. -/
import Derived.Test.YtafojofaegmbnaaCF12
set_option linter.unusedSimpArgs false
set_option linter.unusedVariables false
set_option maxRecDepth 100000
namespace Go.Vx.L55
open Go Go.Proofs
theorem later_ok (s v a : Int) (hv : V64 v) : Runs Try.prog 61 [.val (.int .u64 s), .val (.int .i64 a), .val (.int .i64 v)] [] (Det (.val (.int .u64 (sh s v a))) []) := by
  have t := rtime_ok s (pvF a) (pv_R a)
  by_cases h : (tF s (pvF a)).2 = 0
  · have hb := tF_bd _ _ h
    have e : sh s v a = ofF ((tF s (pvF a)).1 + v) := if_pos h
    rw [e]
    rw [h] at t
    generalize (tF s (pvF a)).1 = n at *
    have e2 : IntKind.i64.wrap (n + v) = n + v := cwrap (by omega) (by omega)
    have o := rof_ok (n + v) (by simp only [R64]; omega)
    refine Runs.mk tabOK Try.call61 Try.func61 rfl Try.ntmps61 Try.results61 rfl ?_
    (repeat' (first
    | (intro Q h; refine h ?_; clear h Q)
    | refine bcase_t (by first | exact beq_self_eq_true _ | decide) ?_
    | refine bcase_f (by decide) ?_
    | (with_reducible refine bcase_true ?_)
    | (with_reducible refine bcase_false ?_)
    | (refine bcase_mk (fun hb => ?_) (fun hb => ?_) <;> (try simp only [nS, nT, eq_self, reduceCtorEq] at hb))
    | refine draw_mk (by decide +kernel) ?_
    | refine seq_go ?_
    | refine And.intro (by first | omega | ((try simp only [wS]); omega) | rfl | decide) ?_
    | ((first | apply call0 (t) | apply calld0 (t)); (focus ((iterate 2 (all_goals (repeat' (first | exact sub_dead | exact subL_nil | exact trivial | (intro Q h; refine h ?_; clear h Q) | refine And.intro ?_ ?_ | refine subL_cons ?_ ?_ | refine sub_agg ?_ | refine sub_tup ?_ | exact sub_refl_val _ _ | (refine sub_int ?_; first | with_reducible rfl | omega | ((try simp only [wS]); omega) | rfl) | exact sub_sb rfl | exact sub_sbl rfl | with_reducible rfl | refine sub_int ?_ | refine sub_sb ?_ | refine sub_sbl ?_)))); done)))
    | (rw [e2]; ((first | apply call0 (o) | apply calld0 (o)); (focus ((iterate 2 (all_goals (repeat' (first | exact sub_dead | exact subL_nil | exact trivial | (intro Q h; refine h ?_; clear h Q) | refine And.intro ?_ ?_ | refine subL_cons ?_ ?_ | refine sub_agg ?_ | refine sub_tup ?_ | exact sub_refl_val _ _ | (refine sub_int ?_; first | with_reducible rfl | omega | ((try simp only [wS]); omega) | rfl) | exact sub_sb rfl | exact sub_sbl rfl | with_reducible rfl | refine sub_int ?_ | refine sub_sb ?_ | refine sub_sbl ?_)))); done))))
    | (apply ret_mk []; (focus (iterate 2 (all_goals (repeat' (first | exact sub_dead | exact subL_nil | exact trivial | (intro Q h; refine h ?_; clear h Q) | refine And.intro ?_ ?_ | refine subL_cons ?_ ?_ | refine sub_agg ?_ | refine sub_tup ?_ | exact sub_refl_val _ _ | (refine sub_int ?_; first | with_reducible rfl | omega | ((try simp only [wS]); omega) | rfl) | exact sub_sb rfl | exact sub_sbl rfl | with_reducible rfl | refine sub_int ?_ | refine sub_sb ?_ | refine sub_sbl ?_))))); (any_goals (apply okIx_mk; rfl)))
    | omega))
  · have e : sh s v a = s := if_neg h
    rw [e]
    generalize tF s (pvF a) = n at *
    refine Runs.mk tabOK Try.call61 Try.func61 rfl Try.ntmps61 Try.results61 rfl ?_
    (repeat' (first
    | (intro Q h; refine h ?_; clear h Q)
    | (with_reducible refine bcase_true ?_)
    | (with_reducible refine bcase_false ?_)
    | (refine bcase_mk (fun hb => ?_) (fun hb => ?_) <;> (try simp only [nS, nT, eq_self, reduceCtorEq] at hb))
    | refine draw_mk (by decide +kernel) ?_
    | refine seq_go ?_
    | refine And.intro (by first | omega | ((try simp only [wS]); omega) | rfl | decide) ?_
    | ((first | apply call0 (t) | apply calld0 (t)); (focus ((iterate 2 (all_goals (repeat' (first | exact sub_dead | exact subL_nil | exact trivial | (intro Q h; refine h ?_; clear h Q) | refine And.intro ?_ ?_ | refine subL_cons ?_ ?_ | refine sub_agg ?_ | refine sub_tup ?_ | exact sub_refl_val _ _ | (refine sub_int ?_; first | with_reducible rfl | omega | ((try simp only [wS]); omega) | rfl) | exact sub_sb rfl | exact sub_sbl rfl | with_reducible rfl | refine sub_int ?_ | refine sub_sb ?_ | refine sub_sbl ?_)))); done)))
    | (apply ret_mk []; (focus (iterate 2 (all_goals (repeat' (first | exact sub_dead | exact subL_nil | exact trivial | (intro Q h; refine h ?_; clear h Q) | refine And.intro ?_ ?_ | refine subL_cons ?_ ?_ | refine sub_agg ?_ | refine sub_tup ?_ | exact sub_refl_val _ _ | (refine sub_int ?_; first | with_reducible rfl | omega | ((try simp only [wS]); omega) | rfl) | exact sub_sb rfl | exact sub_sbl rfl | with_reducible rfl | refine sub_int ?_ | refine sub_sb ?_ | refine sub_sbl ?_))))); (any_goals (apply okIx_mk; rfl)))
    | omega))
    all_goals contradiction
abbrev fgA (x : Fg) : AV := .agg (fgC x)
set_option maxHeartbeats 1000000 in
theorem one1 (x : Fg) (nd fr to vl a : Int) (h1 : R64 x.lo) (h2 : R64 x.hi) (hv : V64 vl) : Runs Try.prog 39 [fgA x, ftA ⟨nd, fr, to, 1, vl⟩, .val (.int .i64 a)] [] (Det (fgA ({ x with drop := true })) []) := by
  refine Runs.mk tabOK Try.call39 Try.func39 rfl Try.ntmps39 Try.results39 rfl ?_
  (repeat' (first
    | (intro Q h; refine h ?_; clear h Q)
    | refine bcase_t (by first | exact beq_self_eq_true _ | decide) ?_
    | refine bcase_f (by decide) ?_
    | (with_reducible refine bcase_true ?_)
    | (with_reducible refine bcase_false ?_)
    | (refine bcase_mk (fun hb => ?_) (fun hb => ?_) <;> (try simp only [nS, nT, eq_self, reduceCtorEq] at hb))
    | refine draw_mk (by decide +kernel) ?_
    | refine seq_go ?_
    | refine And.intro (by first | omega | ((try simp only [wS]); omega) | rfl | decide) ?_
    | (apply ret_mk []; (focus (iterate 2 (all_goals (repeat' (first | exact sub_dead | exact subL_nil | exact trivial | (intro Q h; refine h ?_; clear h Q) | refine And.intro ?_ ?_ | refine subL_cons ?_ ?_ | refine sub_agg ?_ | refine sub_tup ?_ | exact sub_refl_val _ _ | (refine sub_int ?_; first | with_reducible rfl | omega | ((try simp only [wS]); omega) | rfl) | exact sub_sb rfl | exact sub_sbl rfl | with_reducible rfl | refine sub_int ?_ | refine sub_sb ?_ | refine sub_sbl ?_))))); (any_goals (apply okIx_mk; rfl)))
    | omega))
set_option maxHeartbeats 1000000 in
theorem one2 (x : Fg) (nd fr to vl a : Int) (h1 : R64 x.lo) (h2 : R64 x.hi) (hv : V64 vl) : Runs Try.prog 39 [fgA x, ftA ⟨nd, fr, to, 2, vl⟩, .val (.int .i64 a)] [] (Det (fgA (sv vl ((x.rec' (sh x.p.rc vl a)).xmt' (sh x.p.xm vl a)))) []) := by
  have l1 := later_ok x.p.rc vl a hv
  have l2 := later_ok x.p.xm vl a hv
  have l3 := rshift_ok x.lo x.hi vl h1 h2 (by simp only [R64]; omega)
  generalize hs1 : sh x.p.rc vl a = s1 at *
  generalize hs2 : sh x.p.xm vl a = s2 at *
  by_cases h : (shF x.lo x.hi vl).2 = 0
  · rw [show sv vl ((x.rec' s1).xmt' s2) = ((x.rec' s1).xmt' s2).iv' (shF x.lo x.hi vl).1.1 (shF x.lo x.hi vl).1.2 from if_pos h]
    rw [h] at l3
    refine Runs.mk tabOK Try.call39 Try.func39 rfl Try.ntmps39 Try.results39 rfl ?_
    (repeat' (first
    | (intro Q h; refine h ?_; clear h Q)
    | refine bcase_t (by first | exact beq_self_eq_true _ | decide) ?_
    | refine bcase_f (by decide) ?_
    | (with_reducible refine bcase_true ?_)
    | (with_reducible refine bcase_false ?_)
    | (refine bcase_mk (fun hb => ?_) (fun hb => ?_) <;> (try simp only [nS, nT, eq_self, reduceCtorEq] at hb))
    | refine draw_mk (by decide +kernel) ?_
    | refine seq_go ?_
    | refine And.intro (by first | omega | ((try simp only [wS]); omega) | rfl | decide) ?_
    | ((first | apply call0 (l1) | apply calld0 (l1)); (focus ((iterate 2 (all_goals (repeat' (first | exact sub_dead | exact subL_nil | exact trivial | (intro Q h; refine h ?_; clear h Q) | refine And.intro ?_ ?_ | refine subL_cons ?_ ?_ | refine sub_agg ?_ | refine sub_tup ?_ | exact sub_refl_val _ _ | (refine sub_int ?_; first | with_reducible rfl | omega | ((try simp only [wS]); omega) | rfl) | exact sub_sb rfl | exact sub_sbl rfl | with_reducible rfl | refine sub_int ?_ | refine sub_sb ?_ | refine sub_sbl ?_)))); done)))
    | ((first | apply call0 (l2) | apply calld0 (l2)); (focus ((iterate 2 (all_goals (repeat' (first | exact sub_dead | exact subL_nil | exact trivial | (intro Q h; refine h ?_; clear h Q) | refine And.intro ?_ ?_ | refine subL_cons ?_ ?_ | refine sub_agg ?_ | refine sub_tup ?_ | exact sub_refl_val _ _ | (refine sub_int ?_; first | with_reducible rfl | omega | ((try simp only [wS]); omega) | rfl) | exact sub_sb rfl | exact sub_sbl rfl | with_reducible rfl | refine sub_int ?_ | refine sub_sb ?_ | refine sub_sbl ?_)))); done)))
    | ((first | apply call0 (l3) | apply calld0 (l3)); (focus ((iterate 2 (all_goals (repeat' (first | exact sub_dead | exact subL_nil | exact trivial | (intro Q h; refine h ?_; clear h Q) | refine And.intro ?_ ?_ | refine subL_cons ?_ ?_ | refine sub_agg ?_ | refine sub_tup ?_ | exact sub_refl_val _ _ | (refine sub_int ?_; first | with_reducible rfl | omega | ((try simp only [wS]); omega) | rfl) | exact sub_sb rfl | exact sub_sbl rfl | with_reducible rfl | refine sub_int ?_ | refine sub_sb ?_ | refine sub_sbl ?_)))); done)))
    | (apply ret_mk []; (focus (iterate 2 (all_goals (repeat' (first | exact sub_dead | exact subL_nil | exact trivial | (intro Q h; refine h ?_; clear h Q) | refine And.intro ?_ ?_ | refine subL_cons ?_ ?_ | refine sub_agg ?_ | refine sub_tup ?_ | exact sub_refl_val _ _ | (refine sub_int ?_; first | with_reducible rfl | omega | ((try simp only [wS]); omega) | rfl) | exact sub_sb rfl | exact sub_sbl rfl | with_reducible rfl | refine sub_int ?_ | refine sub_sb ?_ | refine sub_sbl ?_))))); (any_goals (apply okIx_mk; rfl)))
    | omega))
  · rw [show sv vl ((x.rec' s1).xmt' s2) = (x.rec' s1).xmt' s2 from if_neg h]
    generalize shF x.lo x.hi vl = w at *
    refine Runs.mk tabOK Try.call39 Try.func39 rfl Try.ntmps39 Try.results39 rfl ?_
    (repeat' (first
    | (intro Q h; refine h ?_; clear h Q)
    | (with_reducible refine bcase_true ?_)
    | (with_reducible refine bcase_false ?_)
    | (refine bcase_mk (fun hb => ?_) (fun hb => ?_) <;> (try simp only [nS, nT, eq_self, reduceCtorEq] at hb))
    | refine draw_mk (by decide +kernel) ?_
    | refine seq_go ?_
    | refine And.intro (by first | omega | ((try simp only [wS]); omega) | rfl | decide) ?_
    | ((first | apply call0 (l1) | apply calld0 (l1)); (focus ((iterate 2 (all_goals (repeat' (first | exact sub_dead | exact subL_nil | exact trivial | (intro Q h; refine h ?_; clear h Q) | refine And.intro ?_ ?_ | refine subL_cons ?_ ?_ | refine sub_agg ?_ | refine sub_tup ?_ | exact sub_refl_val _ _ | (refine sub_int ?_; first | with_reducible rfl | omega | ((try simp only [wS]); omega) | rfl) | exact sub_sb rfl | exact sub_sbl rfl | with_reducible rfl | refine sub_int ?_ | refine sub_sb ?_ | refine sub_sbl ?_)))); done)))
    | ((first | apply call0 (l2) | apply calld0 (l2)); (focus ((iterate 2 (all_goals (repeat' (first | exact sub_dead | exact subL_nil | exact trivial | (intro Q h; refine h ?_; clear h Q) | refine And.intro ?_ ?_ | refine subL_cons ?_ ?_ | refine sub_agg ?_ | refine sub_tup ?_ | exact sub_refl_val _ _ | (refine sub_int ?_; first | with_reducible rfl | omega | ((try simp only [wS]); omega) | rfl) | exact sub_sb rfl | exact sub_sbl rfl | with_reducible rfl | refine sub_int ?_ | refine sub_sb ?_ | refine sub_sbl ?_)))); done)))
    | ((first | apply call0 (l3) | apply calld0 (l3)); (focus ((iterate 2 (all_goals (repeat' (first | exact sub_dead | exact subL_nil | exact trivial | (intro Q h; refine h ?_; clear h Q) | refine And.intro ?_ ?_ | refine subL_cons ?_ ?_ | refine sub_agg ?_ | refine sub_tup ?_ | exact sub_refl_val _ _ | (refine sub_int ?_; first | with_reducible rfl | omega | ((try simp only [wS]); omega) | rfl) | exact sub_sb rfl | exact sub_sbl rfl | with_reducible rfl | refine sub_int ?_ | refine sub_sb ?_ | refine sub_sbl ?_)))); done)))
    | (apply ret_mk []; (focus (iterate 2 (all_goals (repeat' (first | exact sub_dead | exact subL_nil | exact trivial | (intro Q h; refine h ?_; clear h Q) | refine And.intro ?_ ?_ | refine subL_cons ?_ ?_ | refine sub_agg ?_ | refine sub_tup ?_ | exact sub_refl_val _ _ | (refine sub_int ?_; first | with_reducible rfl | omega | ((try simp only [wS]); omega) | rfl) | exact sub_sb rfl | exact sub_sbl rfl | with_reducible rfl | refine sub_int ?_ | refine sub_sb ?_ | refine sub_sbl ?_))))); (any_goals (apply okIx_mk; rfl)))
    | omega))
    all_goals (first | contradiction | skip)
set_option maxHeartbeats 1000000 in
theorem one3 (x : Fg) (nd fr to vl a : Int) (h1 : R64 x.lo) (h2 : R64 x.hi) (hv : V64 vl) : Runs Try.prog 39 [fgA x, ftA ⟨nd, fr, to, 3, vl⟩, .val (.int .i64 a)] [] (Det (fgA (nw vl x)) []) := by
  have i1 := rivck_ok x.lo x.hi
  unfold nw nwF
  by_cases c1 : ivck x.lo x.hi = 0
  · rw [c1] at i1
    have m := middle_ok x.lo x.hi c1
    rcases ivck_cases x.lo x.hi with ⟨_, b1, b2, b3⟩ | ⟨q', _⟩
    rotate_left
    · omega
    have e1 : IntKind.i64.wrap (midF x.lo x.hi + vl) = midF x.lo x.hi + vl := by unfold midF; rw [cw]; omega
    have i2 := rivck_ok (midF x.lo x.hi + vl) (midF x.lo x.hi + vl)
    by_cases c2 : ivck (midF x.lo x.hi + vl) (midF x.lo x.hi + vl) = 0
    · rw [if_pos ⟨c1, c2⟩]
      rw [c2] at i2
      refine Runs.mk tabOK Try.call39 Try.func39 rfl Try.ntmps39 Try.results39 rfl ?_
      (repeat' (first
    | (intro Q h; refine h ?_; clear h Q)
    | refine bcase_t (by first | exact beq_self_eq_true _ | decide) ?_
    | refine bcase_f (by decide) ?_
    | (with_reducible refine bcase_true ?_)
    | (with_reducible refine bcase_false ?_)
    | (refine bcase_mk (fun hb => ?_) (fun hb => ?_) <;> (try simp only [nS, nT, eq_self, reduceCtorEq] at hb))
    | refine draw_mk (by decide +kernel) ?_
    | refine seq_go ?_
    | refine And.intro (by first | omega | ((try simp only [wS]); omega) | rfl | decide) ?_
    | ((first | apply call0 (i1) | apply calld0 (i1)); (focus ((iterate 2 (all_goals (repeat' (first | exact sub_dead | exact subL_nil | exact trivial | (intro Q h; refine h ?_; clear h Q) | refine And.intro ?_ ?_ | refine subL_cons ?_ ?_ | refine sub_agg ?_ | refine sub_tup ?_ | exact sub_refl_val _ _ | (refine sub_int ?_; first | with_reducible rfl | omega | ((try simp only [wS]); omega) | rfl) | exact sub_sb rfl | exact sub_sbl rfl | with_reducible rfl | refine sub_int ?_ | refine sub_sb ?_ | refine sub_sbl ?_)))); done)))
    | ((first | apply call0 (m) | apply calld0 (m)); (focus ((iterate 2 (all_goals (repeat' (first | exact sub_dead | exact subL_nil | exact trivial | (intro Q h; refine h ?_; clear h Q) | refine And.intro ?_ ?_ | refine subL_cons ?_ ?_ | refine sub_agg ?_ | refine sub_tup ?_ | exact sub_refl_val _ _ | (refine sub_int ?_; first | with_reducible rfl | omega | ((try simp only [wS]); omega) | rfl) | exact sub_sb rfl | exact sub_sbl rfl | with_reducible rfl | refine sub_int ?_ | refine sub_sb ?_ | refine sub_sbl ?_)))); done)))
    | (rw [e1]; ((first | apply call0 (i2) | apply calld0 (i2)); (focus ((iterate 2 (all_goals (repeat' (first | exact sub_dead | exact subL_nil | exact trivial | (intro Q h; refine h ?_; clear h Q) | refine And.intro ?_ ?_ | refine subL_cons ?_ ?_ | refine sub_agg ?_ | refine sub_tup ?_ | exact sub_refl_val _ _ | (refine sub_int ?_; first | with_reducible rfl | omega | ((try simp only [wS]); omega) | rfl) | exact sub_sb rfl | exact sub_sbl rfl | with_reducible rfl | refine sub_int ?_ | refine sub_sb ?_ | refine sub_sbl ?_)))); done))))
    | (apply ret_mk []; (focus (iterate 2 (all_goals (repeat' (first | exact sub_dead | exact subL_nil | exact trivial | (intro Q h; refine h ?_; clear h Q) | refine And.intro ?_ ?_ | refine subL_cons ?_ ?_ | refine sub_agg ?_ | refine sub_tup ?_ | exact sub_refl_val _ _ | (refine sub_int ?_; first | with_reducible rfl | omega | ((try simp only [wS]); omega) | rfl) | exact sub_sb rfl | exact sub_sbl rfl | with_reducible rfl | refine sub_int ?_ | refine sub_sb ?_ | refine sub_sbl ?_))))); (any_goals (apply okIx_mk; rfl)))
    | omega))
      all_goals (first | exact e1 | skip)
    · rw [if_neg (fun q => c2 q.2)]
      generalize hq : ivck (midF x.lo x.hi + vl) (midF x.lo x.hi + vl) = q at *
      refine Runs.mk tabOK Try.call39 Try.func39 rfl Try.ntmps39 Try.results39 rfl ?_
      (repeat' (first
    | (intro Q h; refine h ?_; clear h Q)
    | (with_reducible refine bcase_true ?_)
    | (with_reducible refine bcase_false ?_)
    | (refine bcase_mk (fun hb => ?_) (fun hb => ?_) <;> (try simp only [nS, nT, eq_self, reduceCtorEq] at hb))
    | refine draw_mk (by decide +kernel) ?_
    | refine seq_go ?_
    | refine And.intro (by first | omega | ((try simp only [wS]); omega) | rfl | decide) ?_
    | ((first | apply call0 (i1) | apply calld0 (i1)); (focus ((iterate 2 (all_goals (repeat' (first | exact sub_dead | exact subL_nil | exact trivial | (intro Q h; refine h ?_; clear h Q) | refine And.intro ?_ ?_ | refine subL_cons ?_ ?_ | refine sub_agg ?_ | refine sub_tup ?_ | exact sub_refl_val _ _ | (refine sub_int ?_; first | with_reducible rfl | omega | ((try simp only [wS]); omega) | rfl) | exact sub_sb rfl | exact sub_sbl rfl | with_reducible rfl | refine sub_int ?_ | refine sub_sb ?_ | refine sub_sbl ?_)))); done)))
    | ((first | apply call0 (m) | apply calld0 (m)); (focus ((iterate 2 (all_goals (repeat' (first | exact sub_dead | exact subL_nil | exact trivial | (intro Q h; refine h ?_; clear h Q) | refine And.intro ?_ ?_ | refine subL_cons ?_ ?_ | refine sub_agg ?_ | refine sub_tup ?_ | exact sub_refl_val _ _ | (refine sub_int ?_; first | with_reducible rfl | omega | ((try simp only [wS]); omega) | rfl) | exact sub_sb rfl | exact sub_sbl rfl | with_reducible rfl | refine sub_int ?_ | refine sub_sb ?_ | refine sub_sbl ?_)))); done)))
    | (rw [e1]; ((first | apply call0 (i2) | apply calld0 (i2)); (focus ((iterate 2 (all_goals (repeat' (first | exact sub_dead | exact subL_nil | exact trivial | (intro Q h; refine h ?_; clear h Q) | refine And.intro ?_ ?_ | refine subL_cons ?_ ?_ | refine sub_agg ?_ | refine sub_tup ?_ | exact sub_refl_val _ _ | (refine sub_int ?_; first | with_reducible rfl | omega | ((try simp only [wS]); omega) | rfl) | exact sub_sb rfl | exact sub_sbl rfl | with_reducible rfl | refine sub_int ?_ | refine sub_sb ?_ | refine sub_sbl ?_)))); done))))
    | (apply ret_mk []; (focus (iterate 2 (all_goals (repeat' (first | exact sub_dead | exact subL_nil | exact trivial | (intro Q h; refine h ?_; clear h Q) | refine And.intro ?_ ?_ | refine subL_cons ?_ ?_ | refine sub_agg ?_ | refine sub_tup ?_ | exact sub_refl_val _ _ | (refine sub_int ?_; first | with_reducible rfl | omega | ((try simp only [wS]); omega) | rfl) | exact sub_sb rfl | exact sub_sbl rfl | with_reducible rfl | refine sub_int ?_ | refine sub_sb ?_ | refine sub_sbl ?_))))); (any_goals (apply okIx_mk; rfl)))
    | omega))
      all_goals (first | contradiction | (exfalso; omega) | skip)
  · rw [if_neg (fun q => c1 q.1)]
    generalize hq : ivck x.lo x.hi = q at *
    refine Runs.mk tabOK Try.call39 Try.func39 rfl Try.ntmps39 Try.results39 rfl ?_
    (repeat' (first
    | (intro Q h; refine h ?_; clear h Q)
    | (with_reducible refine bcase_true ?_)
    | (with_reducible refine bcase_false ?_)
    | (refine bcase_mk (fun hb => ?_) (fun hb => ?_) <;> (try simp only [nS, nT, eq_self, reduceCtorEq] at hb))
    | refine draw_mk (by decide +kernel) ?_
    | refine seq_go ?_
    | refine And.intro (by first | omega | ((try simp only [wS]); omega) | rfl | decide) ?_
    | ((first | apply call0 (i1) | apply calld0 (i1)); (focus ((iterate 2 (all_goals (repeat' (first | exact sub_dead | exact subL_nil | exact trivial | (intro Q h; refine h ?_; clear h Q) | refine And.intro ?_ ?_ | refine subL_cons ?_ ?_ | refine sub_agg ?_ | refine sub_tup ?_ | exact sub_refl_val _ _ | (refine sub_int ?_; first | with_reducible rfl | omega | ((try simp only [wS]); omega) | rfl) | exact sub_sb rfl | exact sub_sbl rfl | with_reducible rfl | refine sub_int ?_ | refine sub_sb ?_ | refine sub_sbl ?_)))); done)))
    | (apply ret_mk []; (focus (iterate 2 (all_goals (repeat' (first | exact sub_dead | exact subL_nil | exact trivial | (intro Q h; refine h ?_; clear h Q) | refine And.intro ?_ ?_ | refine subL_cons ?_ ?_ | refine sub_agg ?_ | refine sub_tup ?_ | exact sub_refl_val _ _ | (refine sub_int ?_; first | with_reducible rfl | omega | ((try simp only [wS]); omega) | rfl) | exact sub_sb rfl | exact sub_sbl rfl | with_reducible rfl | refine sub_int ?_ | refine sub_sb ?_ | refine sub_sbl ?_))))); (any_goals (apply okIx_mk; rfl)))
    | omega))
    all_goals (first | contradiction | (exfalso; omega) | skip)
set_option maxHeartbeats 1000000 in
theorem one4 (x : Fg) (nd fr to vl a : Int) (h1 : R64 x.lo) (h2 : R64 x.hi) (hv : V64 vl) : Runs Try.prog 39 [fgA x, ftA ⟨nd, fr, to, 4, vl⟩, .val (.int .i64 a)] [] (Det (fgA ((x.leap 3).strat 0)) []) := by
  refine Runs.mk tabOK Try.call39 Try.func39 rfl Try.ntmps39 Try.results39 rfl ?_
  (repeat' (first
    | (intro Q h; refine h ?_; clear h Q)
    | refine bcase_t (by first | exact beq_self_eq_true _ | decide) ?_
    | refine bcase_f (by decide) ?_
    | (with_reducible refine bcase_true ?_)
    | (with_reducible refine bcase_false ?_)
    | (refine bcase_mk (fun hb => ?_) (fun hb => ?_) <;> (try simp only [nS, nT, eq_self, reduceCtorEq] at hb))
    | refine draw_mk (by decide +kernel) ?_
    | refine seq_go ?_
    | refine And.intro (by first | omega | ((try simp only [wS]); omega) | rfl | decide) ?_
    | (apply ret_mk []; (focus (iterate 2 (all_goals (repeat' (first | exact sub_dead | exact subL_nil | exact trivial | (intro Q h; refine h ?_; clear h Q) | refine And.intro ?_ ?_ | refine subL_cons ?_ ?_ | refine sub_agg ?_ | refine sub_tup ?_ | exact sub_refl_val _ _ | (refine sub_int ?_; first | with_reducible rfl | omega | ((try simp only [wS]); omega) | rfl) | exact sub_sb rfl | exact sub_sbl rfl | with_reducible rfl | refine sub_int ?_ | refine sub_sb ?_ | refine sub_sbl ?_))))); (any_goals (apply okIx_mk; rfl)))
    | omega))
set_option maxHeartbeats 1000000 in
theorem one5 (x : Fg) (nd fr to vl a : Int) (h1 : R64 x.lo) (h2 : R64 x.hi) (hv : V64 vl) : Runs Try.prog 39 [fgA x, ftA ⟨nd, fr, to, 5, vl⟩, .val (.int .i64 a)] [] (Det (fgA (x.strat vl)) []) := by
  refine Runs.mk tabOK Try.call39 Try.func39 rfl Try.ntmps39 Try.results39 rfl ?_
  (repeat' (first
    | (intro Q h; refine h ?_; clear h Q)
    | refine bcase_t (by first | exact beq_self_eq_true _ | decide) ?_
    | refine bcase_f (by decide) ?_
    | (with_reducible refine bcase_true ?_)
    | (with_reducible refine bcase_false ?_)
    | (refine bcase_mk (fun hb => ?_) (fun hb => ?_) <;> (try simp only [nS, nT, eq_self, reduceCtorEq] at hb))
    | refine draw_mk (by decide +kernel) ?_
    | refine seq_go ?_
    | refine And.intro (by first | omega | ((try simp only [wS]); omega) | rfl | decide) ?_
    | (apply ret_mk []; (focus (iterate 2 (all_goals (repeat' (first | exact sub_dead | exact subL_nil | exact trivial | (intro Q h; refine h ?_; clear h Q) | refine And.intro ?_ ?_ | refine subL_cons ?_ ?_ | refine sub_agg ?_ | refine sub_tup ?_ | exact sub_refl_val _ _ | (refine sub_int ?_; first | with_reducible rfl | omega | ((try simp only [wS]); omega) | rfl) | exact sub_sb rfl | exact sub_sbl rfl | with_reducible rfl | refine sub_int ?_ | refine sub_sb ?_ | refine sub_sbl ?_))))); (any_goals (apply okIx_mk; rfl)))
    | omega))
set_option maxHeartbeats 1000000 in
theorem one6 (x : Fg) (nd fr to vl a : Int) (h1 : R64 x.lo) (h2 : R64 x.hi) (hv : V64 vl) : Runs Try.prog 39 [fgA x, ftA ⟨nd, fr, to, 6, vl⟩, .val (.int .i64 a)] [] (Det (fgA (x.leap vl)) []) := by
  refine Runs.mk tabOK Try.call39 Try.func39 rfl Try.ntmps39 Try.results39 rfl ?_
  (repeat' (first
    | (intro Q h; refine h ?_; clear h Q)
    | refine bcase_t (by first | exact beq_self_eq_true _ | decide) ?_
    | refine bcase_f (by decide) ?_
    | (with_reducible refine bcase_true ?_)
    | (with_reducible refine bcase_false ?_)
    | (refine bcase_mk (fun hb => ?_) (fun hb => ?_) <;> (try simp only [nS, nT, eq_self, reduceCtorEq] at hb))
    | refine draw_mk (by decide +kernel) ?_
    | refine seq_go ?_
    | refine And.intro (by first | omega | ((try simp only [wS]); omega) | rfl | decide) ?_
    | (apply ret_mk []; (focus (iterate 2 (all_goals (repeat' (first | exact sub_dead | exact subL_nil | exact trivial | (intro Q h; refine h ?_; clear h Q) | refine And.intro ?_ ?_ | refine subL_cons ?_ ?_ | refine sub_agg ?_ | refine sub_tup ?_ | exact sub_refl_val _ _ | (refine sub_int ?_; first | with_reducible rfl | omega | ((try simp only [wS]); omega) | rfl) | exact sub_sb rfl | exact sub_sbl rfl | with_reducible rfl | refine sub_int ?_ | refine sub_sb ?_ | refine sub_sbl ?_))))); (any_goals (apply okIx_mk; rfl)))
    | omega))
set_option maxHeartbeats 1000000 in
theorem one7 (x : Fg) (nd fr to vl a : Int) (h1 : R64 x.lo) (h2 : R64 x.hi) (hv : V64 vl) : Runs Try.prog 39 [fgA x, ftA ⟨nd, fr, to, 7, vl⟩, .val (.int .i64 a)] [] (Det (fgA (x.org' (xorF x.p.org))) []) := by
  refine Runs.mk tabOK Try.call39 Try.func39 rfl Try.ntmps39 Try.results39 rfl ?_
  (repeat' (first
    | (intro Q h; refine h ?_; clear h Q)
    | refine bcase_t (by first | exact beq_self_eq_true _ | decide) ?_
    | refine bcase_f (by decide) ?_
    | (with_reducible refine bcase_true ?_)
    | (with_reducible refine bcase_false ?_)
    | (refine bcase_mk (fun hb => ?_) (fun hb => ?_) <;> (try simp only [nS, nT, eq_self, reduceCtorEq] at hb))
    | refine draw_mk (by decide +kernel) ?_
    | refine seq_go ?_
    | refine And.intro (by first | omega | ((try simp only [wS]); omega) | rfl | decide) ?_
    | (apply ret_mk []; (focus (iterate 2 (all_goals (repeat' (first | exact sub_dead | exact subL_nil | exact trivial | (intro Q h; refine h ?_; clear h Q) | refine And.intro ?_ ?_ | refine subL_cons ?_ ?_ | refine sub_agg ?_ | refine sub_tup ?_ | exact sub_refl_val _ _ | (refine sub_int ?_; first | with_reducible rfl | omega | ((try simp only [wS]); omega) | rfl) | exact sub_sb rfl | exact sub_sbl rfl | with_reducible rfl | refine sub_int ?_ | refine sub_sb ?_ | refine sub_sbl ?_))))); (any_goals (apply okIx_mk; rfl)))
    | omega))
set_option maxHeartbeats 1000000 in
theorem one8 (x : Fg) (nd fr to vl a : Int) (h1 : R64 x.lo) (h2 : R64 x.hi) (hv : V64 vl) : Runs Try.prog 39 [fgA x, ftA ⟨nd, fr, to, 8, vl⟩, .val (.int .i64 a)] [] (Det (fgA (((x.leap 3).strat 0).ref 1380013125)) []) := by
  refine Runs.mk tabOK Try.call39 Try.func39 rfl Try.ntmps39 Try.results39 rfl ?_
  (repeat' (first
    | (intro Q h; refine h ?_; clear h Q)
    | refine bcase_t (by first | exact beq_self_eq_true _ | decide) ?_
    | refine bcase_f (by decide) ?_
    | (with_reducible refine bcase_true ?_)
    | (with_reducible refine bcase_false ?_)
    | (refine bcase_mk (fun hb => ?_) (fun hb => ?_) <;> (try simp only [nS, nT, eq_self, reduceCtorEq] at hb))
    | refine draw_mk (by decide +kernel) ?_
    | refine seq_go ?_
    | refine And.intro (by first | omega | ((try simp only [wS]); omega) | rfl | decide) ?_
    | ((first | apply call0 (rcode_ok) | apply calld0 (rcode_ok)); (focus ((iterate 2 (all_goals (repeat' (first | exact sub_dead | exact subL_nil | exact trivial | (intro Q h; refine h ?_; clear h Q) | refine And.intro ?_ ?_ | refine subL_cons ?_ ?_ | refine sub_agg ?_ | refine sub_tup ?_ | exact sub_refl_val _ _ | (refine sub_int ?_; first | with_reducible rfl | omega | ((try simp only [wS]); omega) | rfl) | exact sub_sb rfl | exact sub_sbl rfl | with_reducible rfl | refine sub_int ?_ | refine sub_sb ?_ | refine sub_sbl ?_)))); done)))
    | (apply ret_mk []; (focus (iterate 2 (all_goals (repeat' (first | exact sub_dead | exact subL_nil | exact trivial | (intro Q h; refine h ?_; clear h Q) | refine And.intro ?_ ?_ | refine subL_cons ?_ ?_ | refine sub_agg ?_ | refine sub_tup ?_ | exact sub_refl_val _ _ | (refine sub_int ?_; first | with_reducible rfl | omega | ((try simp only [wS]); omega) | rfl) | exact sub_sb rfl | exact sub_sbl rfl | with_reducible rfl | refine sub_int ?_ | refine sub_sb ?_ | refine sub_sbl ?_))))); (any_goals (apply okIx_mk; rfl)))
    | omega))
set_option maxHeartbeats 1000000 in
theorem one9 (x : Fg) (nd fr to vl a : Int) (h1 : R64 x.lo) (h2 : R64 x.hi) (hv : V64 vl) : Runs Try.prog 39 [fgA x, ftA ⟨nd, fr, to, 9, vl⟩, .val (.int .i64 a)] [] (Det (fgA ({ x with hold := IntKind.i64.wrap (x.hold + vl) })) []) := by
  refine Runs.mk tabOK Try.call39 Try.func39 rfl Try.ntmps39 Try.results39 rfl ?_
  (repeat' (first
    | (intro Q h; refine h ?_; clear h Q)
    | refine bcase_t (by first | exact beq_self_eq_true _ | decide) ?_
    | refine bcase_f (by decide) ?_
    | (with_reducible refine bcase_true ?_)
    | (with_reducible refine bcase_false ?_)
    | (refine bcase_mk (fun hb => ?_) (fun hb => ?_) <;> (try simp only [nS, nT, eq_self, reduceCtorEq] at hb))
    | refine draw_mk (by decide +kernel) ?_
    | refine seq_go ?_
    | refine And.intro (by first | omega | ((try simp only [wS]); omega) | rfl | decide) ?_
    | (apply ret_mk []; (focus (iterate 2 (all_goals (repeat' (first | exact sub_dead | exact subL_nil | exact trivial | (intro Q h; refine h ?_; clear h Q) | refine And.intro ?_ ?_ | refine subL_cons ?_ ?_ | refine sub_agg ?_ | refine sub_tup ?_ | exact sub_refl_val _ _ | (refine sub_int ?_; first | with_reducible rfl | omega | ((try simp only [wS]); omega) | rfl) | exact sub_sb rfl | exact sub_sbl rfl | with_reducible rfl | refine sub_int ?_ | refine sub_sb ?_ | refine sub_sbl ?_))))); (any_goals (apply okIx_mk; rfl)))
    | omega))
theorem one_ok (x : Fg) (f : Ft) (a : Int) (h1 : R64 x.lo) (h2 : R64 x.hi) (hv : V64 f.vl) (hk : 1 ≤ f.kd ∧ f.kd ≤ 9) : Runs Try.prog 39 [fgA x, ftA f, .val (.int .i64 a)] [] (Det (fgA (fgF f a x)) []) := by
  obtain ⟨nd, fr, to, kd, vl⟩ := f
  simp only at hk
  obtain rfl | rfl | rfl | rfl | rfl | rfl | rfl | rfl | rfl : kd = 1 ∨ kd = 2 ∨ kd = 3 ∨ kd = 4 ∨ kd = 5 ∨ kd = 6 ∨ kd = 7 ∨ kd = 8 ∨ kd = 9 := by omega
  · exact one1 x nd fr to vl a h1 h2 hv
  · exact one2 x nd fr to vl a h1 h2 hv
  · exact one3 x nd fr to vl a h1 h2 hv
  · exact one4 x nd fr to vl a h1 h2 hv
  · exact one5 x nd fr to vl a h1 h2 hv
  · exact one6 x nd fr to vl a h1 h2 hv
  · exact one7 x nd fr to vl a h1 h2 hv
  · exact one8 x nd fr to vl a h1 h2 hv
  · exact one9 x nd fr to vl a h1 h2 hv
end Go.Vx.L55

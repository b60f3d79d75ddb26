/- Lemmas of a small executor for the model, and contracts of functions, used for the law that this claim proves. No condition. -/
import Derived.Test.YtblcjjlggfpehaaC31
set_option linter.unusedSimpArgs false
set_option linter.unusedVariables false
set_option maxRecDepth 100000
namespace Go.Vx.L53
open Go Go.Proofs
theorem short2_ok (l : List En) (cap : Option Nat) (c : Cf) (cap2 : Option Nat) (hl : l.length ≤ maxLen) (hc : c.tol.length ≤ maxLen) :
    Runs Try.prog 10 [aL l cap, aC c 1 cap2] [gL l, gT c] (Det (.sb (decide (l.length ≤ 200 ∧ c.tol.length ≤ 100))) [gL l, gT c]) := short_ok l cap c cap2 hl hc
set_option maxHeartbeats 2000000 in
theorem offsetsConsistent (l : List En) (cap : Option Nat) (hl : l.length ≤ maxLen) (c : Cf) (cap2 : Option Nat) (hc : c.tol.length ≤ maxLen) (t : List Int) (cap3 : Option Nat) (ht : t.length ≤ maxLen) :
    Runs Try.prog 6 [aL l cap, aC c 1 cap2, .sl 2 1 0 t.length cap3] [gL l, gT c, iB false t] (Det (.sb true) [gL l, gT c, iB false t]) := by
  have hmx : maxLen = 9223372036854775807 := by decide
  have hsh := short_ok l cap c cap2 hl hc
  by_cases h : l.length ≤ 200 ∧ c.tol.length ≤ 100
  rotate_left
  · rw [decide_eq_false h] at hsh
    refine Runs.mk tabOK Try.call6 Try.func6 rfl Try.ntmps6 Try.results6 rfl ?_
    (repeat' (first
    | (intro Q h; refine h ?_; clear h Q)
    | (refine bcase_mk (fun hb => ?_) (fun hb => ?_) <;> (try simp only [nS, nT, eq_self, reduceCtorEq] at hb) <;> (try (exfalso; (omega); done)))
    | refine seq_go ?_
    | ((first | apply call_detx [some 0, some 1] (hsh) ); (focus ((iterate 2 (all_goals (repeat' (first | exact subL_nil | exact trivial | (intro Q h; refine h ?_; clear h Q) | refine And.intro ?_ ?_ | refine subL_cons ?_ ?_ | refine sub_agg ?_ | exact sub_sl rfl rfl rfl | exact sub_refl_val _ _ | exact row_same rfl rfl rfl )))))); (any_goals (first | (apply nodup_mk; rfl) )))
    | ((first | apply call0 (awake_ok) ); (focus (iterate 2 (all_goals (repeat' (first | exact subL_nil ))))))
    | (apply ret_mk [some 0, some 1, some 2]; (focus (iterate 2 (all_goals (repeat' (first | exact trivial | (intro Q h; refine h ?_; clear h Q) | refine And.intro ?_ ?_ | exact sub_sb rfl | exact row_same rfl rfl rfl ))))); (any_goals (apply okIx_mk; rfl)))
    ))
  rw [decide_eq_true h] at hsh
  have h1 := consistent_ok l cap c cap2 t cap3 hl hc ht
  have h2 := rconsistent_ok l cap c cap2 t cap3 hl hc ht
  generalize conB l c t = B at *
  refine Runs.mk tabOK Try.call6 Try.func6 rfl Try.ntmps6 Try.results6 rfl ?_
  (repeat' (first
    | (intro Q h; refine h ?_; clear h Q)
    | (with_reducible refine bcase_true ?_)
    | (refine bcase_mk (fun hb => ?_) (fun hb => ?_) <;> (try simp only [nS, nT, eq_self, reduceCtorEq] at hb) <;> (try (exfalso; (omega); done)))
    | refine draw_mk (by decide +kernel) ?_
    | refine seq_go ?_
    | ((first | apply call_detx [some 0, some 1] (hsh) ); (focus ((iterate 2 (all_goals (repeat' (first | exact subL_nil | exact trivial | (intro Q h; refine h ?_; clear h Q) | refine And.intro ?_ ?_ | refine subL_cons ?_ ?_ | refine sub_agg ?_ | exact sub_sl rfl rfl rfl | exact sub_refl_val _ _ | exact row_same rfl rfl rfl )))); done)); (any_goals (first | (apply nodup_mk; rfl) )))
    | ((first | apply calld_detx [some 0, some 1, some 2] (h1)); (focus ((iterate 2 (all_goals (repeat' (first | exact subL_nil | exact trivial | (intro Q h; refine h ?_; clear h Q) | refine And.intro ?_ ?_ | refine subL_cons ?_ ?_ | refine sub_agg ?_ | exact sub_sl rfl rfl rfl | exact sub_refl_val _ _ | exact row_same rfl rfl rfl )))); done)); (any_goals (first | (apply nodup_mk2; rfl) )))
    | ((first | apply calld_detx [some 0, some 1, some 2] (h2)); (focus ((iterate 2 (all_goals (repeat' (first | exact subL_nil | exact trivial | (intro Q h; refine h ?_; clear h Q) | refine And.intro ?_ ?_ | refine subL_cons ?_ ?_ | refine sub_agg ?_ | exact sub_sl rfl rfl rfl | exact sub_refl_val _ _ | exact row_same rfl rfl rfl )))); done)); (any_goals (first | (apply nodup_mk2; rfl) )))
    | ((first | apply call0 (awake_ok) | apply calld0 (awake_ok)); (focus (iterate 2 (all_goals (repeat' (first | exact subL_nil ))))))
    | (apply ret_mk [some 0, some 1, some 2]; (focus (iterate 2 (all_goals (repeat' (first | exact trivial | (intro Q h; refine h ?_; clear h Q) | refine And.intro ?_ ?_ | exact sub_sb rfl | exact sub_sbl rfl | exact row_same rfl rfl rfl | refine sub_sbl ?_ ))))); (any_goals (apply okIx_mk; rfl)))
    ))
  all_goals (exact absurd ((‹B = true› : B = true).symm.trans ‹B = false›) (by decide))
end Go.Vx.L53

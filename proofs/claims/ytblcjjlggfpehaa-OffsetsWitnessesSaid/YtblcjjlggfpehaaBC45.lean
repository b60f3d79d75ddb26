/- Lemmas of a small executor for the model, and contracts of functions, used for the law that this claim proves. No condition. -/
import Derived.Test.YtblcjjlggfpehaaBC39
import Derived.Test.YtblcjjlggfpehaaBC40
import Derived.Test.YtblcjjlggfpehaaBC44
import Derived.Test.YtblcjjlggfpehaaBC43
set_option linter.unusedSimpArgs false
set_option linter.unusedVariables false
set_option maxRecDepth 100000
namespace Go.Vx.L53
open Go Go.Proofs
theorem wiL_len (l : List En) (c : Cf) (i : Int) (hi : Bool) : (wiL l c i hi).length ≤ l.length := by
  unfold wiL
  split
  · simp
  · simp
set_option maxHeartbeats 2000000 in
theorem offsetsWitnesses (l : List En) (cap : Option Nat) (hl : l.length ≤ maxLen) (c : Cf) (cap2 : Option Nat) (hc : c.tol.length ≤ maxLen) (n : Int) (b : Bool) :
    Runs Try.prog 8 [aL l cap, aC c 1 cap2, .agg [.val (.int .i64 n), .val (.bool b)]] [gL l, gT c] (Det (.sb true) [gL l, gT c]) := by
  have hmx : maxLen = 9223372036854775807 := by decide
  have hsh := short_ok l cap c cap2 hl hc
  by_cases h : l.length ≤ 200 ∧ c.tol.length ≤ 100
  rotate_left
  · rw [decide_eq_false h] at hsh
    refine Runs.mk tabOK Try.call8 Try.func8 rfl Try.ntmps8 Try.results8 rfl ?_
    (repeat' (first
    | (intro Q h; refine h ?_; clear h Q)
    | (refine bcase_mk (fun hb => ?_) (fun hb => ?_) <;> (try simp only [nS, nT, eq_self, reduceCtorEq] at hb) <;> (try (exfalso; (omega); done)))
    | refine seq_go ?_
    | ((first | apply call_detx [some 0, some 1] (hsh) ); (focus ((iterate 2 (all_goals (repeat' (first | exact subL_nil | exact trivial | (intro Q h; refine h ?_; clear h Q) | refine And.intro ?_ ?_ | refine subL_cons ?_ ?_ | refine sub_agg ?_ | exact sub_sl rfl rfl rfl | exact sub_refl_val _ _ | exact row_same rfl rfl rfl )))))); (any_goals (first | (apply nodup_mk; rfl) )))
    | ((first | apply call0 (awake_ok) ); (focus (iterate 2 (all_goals (repeat' (first | exact subL_nil ))))))
    | (apply ret_mk [some 0, some 1]; (focus (iterate 2 (all_goals (repeat' (first | exact trivial | (intro Q h; refine h ?_; clear h Q) | refine And.intro ?_ ?_ | exact sub_sb rfl | exact row_same rfl rfl rfl ))))); (any_goals (apply okIx_mk; rfl)))
    ))
  rw [decide_eq_true h] at hsh
  have hw1 := witness_ok l cap c cap2 n b hl hc
  have hw2 := rwitness_ok l cap c cap2 n b hl hc
  have hWl := wiL_len l c n b
  have hsi := sameInts_ok (wiL l c n b) (wiL l c n b) none none (by omega) (by omega)
  rw [decide_eq_true rfl] at hsi
  have hb1 := blame_ok l cap c cap2 hl hc
  have hb2 := rblame_ok l cap c cap2 hl hc
  generalize wiL l c n b = W at *
  generalize wiE l c n b = e at *
  generalize blA l c = A at *
  generalize rblA l c = B at *
  generalize blO l c = O at *
  cases O
  · refine Runs.mk tabOK Try.call8 Try.func8 rfl Try.ntmps8 Try.results8 rfl ?_
    (repeat' (first
    | (intro Q h; refine h ?_; clear h Q)
    | (refine bcase_mk (fun hb => ?_) (fun hb => ?_) <;> (try simp only [nS, nT, eq_self, reduceCtorEq] at hb) <;> (try (exfalso; (omega); done)))
    | refine seq_go ?_
    | ((first | apply call_detx [some 0, some 1] (hsh) ); (focus ((iterate 2 (all_goals (repeat' (first | exact subL_nil | exact trivial | (intro Q h; refine h ?_; clear h Q) | refine And.intro ?_ ?_ | refine subL_cons ?_ ?_ | refine sub_agg ?_ | exact sub_sl rfl rfl rfl | exact sub_refl_val _ _ | exact row_same rfl rfl rfl )))))); (any_goals (first | (apply nodup_mk; rfl) )))
    | ((first | apply call_detx [some 0, some 1] (hw1) ); (focus ((iterate 2 (all_goals (repeat' (first | exact subL_nil | exact trivial | (intro Q h; refine h ?_; clear h Q) | refine And.intro ?_ ?_ | refine subL_cons ?_ ?_ | refine sub_agg ?_ | exact sub_sl rfl rfl rfl | exact sub_refl_val _ _ | exact sub_sbl rfl | exact row_same rfl rfl rfl )))))); (any_goals (first | (apply nodup_mk; rfl) )))
    | ((first | apply call_detx [some 0, some 1] (hw2) ); (focus ((iterate 2 (all_goals (repeat' (first | exact subL_nil | exact trivial | (intro Q h; refine h ?_; clear h Q) | refine And.intro ?_ ?_ | refine subL_cons ?_ ?_ | refine sub_agg ?_ | exact sub_sl rfl rfl rfl | exact sub_refl_val _ _ | exact sub_sbl rfl | exact row_same rfl rfl rfl )))))); (any_goals (first | (apply nodup_mk; rfl) )))
    | ((first | apply call2 (hsi) ); (focus (iterate 2 (all_goals (repeat' (first | exact subL_nil | exact trivial | (intro Q h; refine h ?_; clear h Q) | refine And.intro ?_ ?_ | refine subL_cons ?_ ?_ | exact sub_sl rfl rfl rfl | exact row_ren rfl rfl rfl ))))); (try (any_goals (first | (apply nodup_mk; rfl) ))))
    | ((first | apply call_detx [some 0, some 1] (hb1) ); (focus ((iterate 2 (all_goals (repeat' (first | exact subL_nil | exact trivial | (intro Q h; refine h ?_; clear h Q) | refine And.intro ?_ ?_ | refine subL_cons ?_ ?_ | refine sub_agg ?_ | exact sub_sl rfl rfl rfl | exact sub_refl_val _ _ | exact row_same rfl rfl rfl )))))); (any_goals (first | (apply nodup_mk; rfl) )))
    | ((first | apply call_detx [some 0, some 1] (hb2) ); (focus ((iterate 2 (all_goals (repeat' (first | exact subL_nil | exact trivial | (intro Q h; refine h ?_; clear h Q) | refine And.intro ?_ ?_ | refine subL_cons ?_ ?_ | refine sub_agg ?_ | exact sub_sl rfl rfl rfl | exact sub_refl_val _ _ | exact row_same rfl rfl rfl )))))); (any_goals (first | (apply nodup_mk; rfl) )))
    | ((first | apply call0 (awake_ok) ); (focus (iterate 2 (all_goals (repeat' (first | exact subL_nil ))))))
    | (apply ret_mk [some 0, some 1]; (focus (iterate 2 (all_goals (repeat' (first | exact trivial | (intro Q h; refine h ?_; clear h Q) | refine And.intro ?_ ?_ | exact sub_sb rfl | exact row_same rfl rfl rfl ))))); (any_goals (apply okIx_mk; rfl)))
    ))
  · refine Runs.mk tabOK Try.call8 Try.func8 rfl Try.ntmps8 Try.results8 rfl ?_
    (repeat' (first
    | (intro Q h; refine h ?_; clear h Q)
    | (refine bcase_mk (fun hb => ?_) (fun hb => ?_) <;> (try simp only [nS, nT, eq_self, reduceCtorEq] at hb) <;> (try (exfalso; (omega); done)))
    | refine seq_go ?_
    | ((first | apply call_detx [some 0, some 1] (hsh) ); (focus ((iterate 2 (all_goals (repeat' (first | exact subL_nil | exact trivial | (intro Q h; refine h ?_; clear h Q) | refine And.intro ?_ ?_ | refine subL_cons ?_ ?_ | refine sub_agg ?_ | exact sub_sl rfl rfl rfl | exact sub_refl_val _ _ | exact row_same rfl rfl rfl )))))); (any_goals (first | (apply nodup_mk; rfl) )))
    | ((first | apply call_detx [some 0, some 1] (hw1) ); (focus ((iterate 2 (all_goals (repeat' (first | exact subL_nil | exact trivial | (intro Q h; refine h ?_; clear h Q) | refine And.intro ?_ ?_ | refine subL_cons ?_ ?_ | refine sub_agg ?_ | exact sub_sl rfl rfl rfl | exact sub_refl_val _ _ | exact sub_sbl rfl | exact row_same rfl rfl rfl )))))); (any_goals (first | (apply nodup_mk; rfl) )))
    | ((first | apply call_detx [some 0, some 1] (hw2) ); (focus ((iterate 2 (all_goals (repeat' (first | exact subL_nil | exact trivial | (intro Q h; refine h ?_; clear h Q) | refine And.intro ?_ ?_ | refine subL_cons ?_ ?_ | refine sub_agg ?_ | exact sub_sl rfl rfl rfl | exact sub_refl_val _ _ | exact sub_sbl rfl | exact row_same rfl rfl rfl )))))); (any_goals (first | (apply nodup_mk; rfl) )))
    | ((first | apply call2 (hsi) ); (focus (iterate 2 (all_goals (repeat' (first | exact subL_nil | exact trivial | (intro Q h; refine h ?_; clear h Q) | refine And.intro ?_ ?_ | refine subL_cons ?_ ?_ | exact sub_sl rfl rfl rfl | exact row_ren rfl rfl rfl ))))); (try (any_goals (first | (apply nodup_mk; rfl) ))))
    | ((first | apply call_detx [some 0, some 1] (hb1) ); (focus ((iterate 2 (all_goals (repeat' (first | exact subL_nil | exact trivial | (intro Q h; refine h ?_; clear h Q) | refine And.intro ?_ ?_ | refine subL_cons ?_ ?_ | refine sub_agg ?_ | exact sub_sl rfl rfl rfl | exact sub_refl_val _ _ | exact row_same rfl rfl rfl )))))); (any_goals (first | (apply nodup_mk; rfl) )))
    | ((first | apply call_detx [some 0, some 1] (hb2) ); (focus ((iterate 2 (all_goals (repeat' (first | exact subL_nil | exact trivial | (intro Q h; refine h ?_; clear h Q) | refine And.intro ?_ ?_ | refine subL_cons ?_ ?_ | refine sub_agg ?_ | exact sub_sl rfl rfl rfl | exact sub_refl_val _ _ | exact row_same rfl rfl rfl )))))); (any_goals (first | (apply nodup_mk; rfl) )))
    | ((first | apply call0 (awake_ok) ); (focus (iterate 2 (all_goals (repeat' (first | exact subL_nil ))))))
    | (apply ret_mk [some 0, some 1]; (focus (iterate 2 (all_goals (repeat' (first | exact trivial | (intro Q h; refine h ?_; clear h Q) | refine And.intro ?_ ?_ | exact sub_sb rfl | exact row_same rfl rfl rfl ))))); (any_goals (apply okIx_mk; rfl)))
    ))
end Go.Vx.L53

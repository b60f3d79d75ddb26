/- Lemmas of a small executor for the model, and contracts of functions, used for the law that this claim proves. No condition. -/
import Derived.Test.YtblcjjlggfpehaaBC26
set_option linter.unusedSimpArgs false
set_option linter.unusedVariables false
set_option maxRecDepth 100000
namespace Go.Vx.L53
open Go Go.Proofs
def sL : List En := [⟨1, 0, 1, 1, 100, 0⟩, ⟨2, 1, 0, 1, 500, 0⟩]
def sC : Cf := ⟨0, 0, [0, 0], 10, 30⟩
theorem small_ok : Runs Try.prog 25 [] [] (Det (.tup [.sl 0 6 0 2 (some 2), .agg [.val (.int .i64 0), .val (.int .i64 0), .sl 1 1 0 2 (some 2), .val (.int .i64 10), .val (.int .i64 30)]]) [.arr true 53 6 2 (enF sL), .arr true 3 1 2 (intF [0, 0])]) := by
  refine Runs.mk tabOK Try.call25 Try.func25 rfl Try.ntmps25 Try.results25 rfl ?_
  (repeat' (first
    | (intro Q h; refine h ?_; clear h Q)
    | (apply ret_mk [some 1, some 2]; (focus (iterate 2 (all_goals (repeat' (first | (apply row_lit rfl; (focus (refine cells_succ (cells_succ ?_ ?_) ?_))) | exact subL_nil | exact trivial | (intro Q h; refine h ?_; clear h Q) | refine And.intro ?_ ?_ | refine subL_cons ?_ ?_ | refine sub_agg ?_ | refine sub_tup ?_ | exact sub_sl rfl rfl rfl | exact sub_refl_val _ _ | refine cells_succ ?_ ?_ | exact cell0 ))))); (any_goals (apply okIx_mk; rfl)))
    ))
theorem short_ok (l : List En) (cap : Option Nat) (c : Cf) (cap2 : Option Nat) (hl : l.length ≤ maxLen) (hc : c.tol.length ≤ maxLen) :
    Runs Try.prog 10 [aL l cap, aC c 1 cap2] [gL l, gT c] (Det (.sb (decide (l.length ≤ 200 ∧ c.tol.length ≤ 100))) [gL l, gT c]) := by
  have hmx : maxLen = 9223372036854775807 := by decide
  refine Runs.mk tabOK Try.call10 Try.func10 rfl Try.ntmps10 Try.results10 rfl ?_
  (repeat' (first
    | (intro Q h; refine h ?_; clear h Q)
    | (refine bcase_mk (fun hb => ?_) (fun hb => ?_) <;> (try simp only [nS, nT, eq_self, reduceCtorEq] at hb))
    | (apply ret_mk [some 0, some 1]; (focus (iterate 2 (all_goals (repeat' (first | exact trivial | (intro Q h; refine h ?_; clear h Q) | refine And.intro ?_ ?_ | exact row_same rfl rfl rfl | refine sub_sb ?_ | refine sub_sbl ?_ ))))); (any_goals (apply okIx_mk; rfl)))
    ))
  all_goals (rw [Bool.eq_iff_iff]; simp; omega)
theorem sys_small1 : ofE sL sC = 0 := by decide +kernel
theorem sys_small2 : (ofA sL sC).map (fun v => (v.lo, v.hi)) = [(0, 0), (370, 390)] := by decide +kernel
theorem sys_small : ofE sL sC = 0 ∧ ofA sL sC = [⟨0, 0⟩, ⟨370, 390⟩] := by
  refine ⟨sys_small1, ?_⟩
  have h := sys_small2
  generalize ofA sL sC = l at *
  rcases l with _ | ⟨⟨a, b⟩, _ | ⟨⟨c, d⟩, _ | ⟨e, r⟩⟩⟩ <;> simp at h
  obtain ⟨⟨rfl, rfl⟩, rfl, rfl⟩ := h
  rfl
set_option maxHeartbeats 1000000 in
theorem awake_ok : Runs Try.prog 11 [] [] (Det (.sb true) []) := by
  have hs := small_ok
  have ho := offsets_ok sL (some 2) sC (some 2) (by decide) (by decide)
  rw [sys_small.1, sys_small.2] at ho
  refine Runs.mk tabOK Try.call11 Try.func11 rfl Try.ntmps11 Try.results11 rfl ?_
  (repeat' (first
    | (intro Q h; refine h ?_; clear h Q)
    | refine bcase_t (by first | exact beq_self_eq_true _ | decide) ?_
    | refine And.intro (by first | omega | ((try simp only [wS]); omega) | rfl | decide) ?_
    | ((first | apply call0 (hs) ); (focus (iterate 2 (all_goals (repeat' (first | exact subL_nil ))))))
    | ((first | apply call_detx [some 0, some 1] (ho) ); (focus ((iterate 2 (all_goals (repeat' (first | (apply row_lit rfl; (focus (refine cells_succ (cells_succ ?_ ?_) ?_))) | exact subL_nil | exact trivial | (intro Q h; refine h ?_; clear h Q) | refine And.intro ?_ ?_ | refine subL_cons ?_ ?_ | refine sub_agg ?_ | exact sub_sl rfl rfl rfl | exact sub_refl_val _ _ | refine cells_succ ?_ ?_ | exact cell0 )))))); (any_goals (first | (apply nodup_mk; rfl) )))
    | (apply ret_mk []; (focus (iterate 2 (all_goals (repeat' (first | exact trivial | refine And.intro ?_ ?_ | exact sub_sb rfl ))))); (any_goals (apply okIx_mk; rfl)))
    ))
end Go.Vx.L53

/- Lemmas of a small executor for the model, and contracts of functions, used for the law that this claim proves. No condition. -/
import Derived.Test.YtblcjjlggfpehaaBC31
import Derived.Test.YtblcjjlggfpehaaBC41
import Derived.Test.YtblcjjlggfpehaaBD12
set_option linter.unusedSimpArgs false
set_option linter.unusedVariables false
set_option maxRecDepth 100000
namespace Go.Vx.L53
open Go Go.Proofs
set_option maxHeartbeats 4000000 in
theorem attained_ok (l : List En) (cap : Option Nat) (c : Cf) (cap2 : Option Nat) (hl : l.length ≤ maxLen) (hc : c.tol.length ≤ maxLen) (h0 : ofE l c = 0) (i : Nat) (hi : i < l.length) :
    Runs Try.prog 24 [aL l cap, aC c 1 cap2, .val (.int .i64 i), .agg [.val (.int .i64 ((ofA l c).getD i iv0).lo), .val (.int .i64 ((ofA l c).getD i iv0).hi)]] [gL l, gT c] (Det (.sb true) [gL l, gT c]) := by
  have hmx : maxLen = 9223372036854775807 := by decide
  have hw0 := witness_ok l cap c cap2 i false hl hc
  have hw1 := witness_ok l cap c cap2 i true hl hc
  have n0 := wi_none h0 hi false
  have n1 := wi_none h0 hi true
  have hz : 0 + Int.toNat (i : Int) = i := by omega
  have hcc := (lchk_rg (sys_zero (of_sys h0).1).1 hi).2.2.2.1
  have hk : ∀ b, wiE l c i b = 0 → (wiL l c i b).length = l.length ∧ Runs Try.prog 16 [aL l cap, aC c 1 cap2, .sl 2 1 0 (wiL l c i b).length none] [gL l, gT c, iB false (wiL l c i b)] (Det (.sb true) [gL l, gT c, iB false (wiL l c i b)]) ∧
      IntKind.i64.wrap ((l.getD (0 + Int.toNat (i : Int)) en0).c - (wiL l c i b).getD (0 + Int.toNat (i : Int)) 0) = bif b then ((ofA l c).getD i iv0).hi else ((ofA l c).getD i iv0).lo := fun b hE => by
    obtain ⟨g1, g2⟩ := wiL_get h0 hi hE
    have g3 := wiL_con h0 hi hE
    have g4 := wiL_at h0 hi hE
    have g5 := consistent_ok l cap c cap2 (wiL l c i b) none hl hc (by omega)
    rw [g3] at g5
    refine ⟨g1, g5, ?_⟩
    have g6 := (conB_pot g3).2.2.1 _ (getD_mem (wiL l c i b) i 0 (by omega))
    rw [hz, ← g4]
    exact cwrap (by omega) (by omega)
  simp only [cond_true, cond_false] at n0 n1
  rcases n0 with ⟨a0, e0⟩ | ⟨a0, e0⟩
  · have L0 : wiL l c i false = [] := by unfold wiL; rw [e0]; rfl
    rw [e0, L0] at hw0
    rcases n1 with ⟨a1, e1⟩ | ⟨a1, e1⟩
    · have L1 : wiL l c i true = [] := by unfold wiL; rw [e1]; rfl
      rw [e1, L1] at hw1
      clear hk
      generalize ((ofA l c).getD i iv0).lo = lo at *
      generalize ((ofA l c).getD i iv0).hi = hi' at *
      subst a0 a1
      refine Runs.mk tabOK Try.call24 Try.func24 rfl Try.ntmps24 Try.results24 rfl ?_
      (repeat' (first
    | (intro Q h; refine h ?_; clear h Q)
    | refine bcase_t (by first | exact beq_self_eq_true _ | decide) ?_
    | refine bcase_f (by decide) ?_
    | refine seq_go ?_
    | refine And.intro (by first | omega | ((try simp only [wS]); omega) | rfl | decide) ?_
    | (refine loop_go 3 ?_)
    | ((first | apply call_detx [some 0, some 1] (hw0) ); (focus ((iterate 2 (all_goals (repeat' (first | exact subL_nil | exact trivial | (intro Q h; refine h ?_; clear h Q) | refine And.intro ?_ ?_ | refine subL_cons ?_ ?_ | refine sub_agg ?_ | exact sub_sl rfl rfl rfl | exact sub_refl_val _ _ | exact sub_sbl rfl | exact row_same rfl rfl rfl | refine sub_sbl ?_ )))); done)); (any_goals (first | (apply nodup_mk; rfl) )))
    | ((first | apply call_detx [some 0, some 1] (hw1) ); (focus ((iterate 2 (all_goals (repeat' (first | exact subL_nil | exact trivial | (intro Q h; refine h ?_; clear h Q) | refine And.intro ?_ ?_ | refine subL_cons ?_ ?_ | refine sub_agg ?_ | exact sub_sl rfl rfl rfl | exact sub_refl_val _ _ | exact sub_sbl rfl | exact row_same rfl rfl rfl )))); done)); (any_goals (first | (apply nodup_mk; rfl) )))
    | (apply ret_mk [some 0, some 1]; (focus (iterate 2 (all_goals (repeat' (first | exact trivial | (intro Q h; refine h ?_; clear h Q) | refine And.intro ?_ ?_ | exact sub_sbl rfl | exact row_same rfl rfl rfl ))))); (any_goals (apply okIx_mk; rfl)))
    ))
    · obtain ⟨k1, k2, k3⟩ := hk true e1
      rw [e1] at hw1
      simp only [cond_true] at k3
      clear hk
      generalize wiL l c i true = W1 at *
      generalize ((ofA l c).getD i iv0).lo = lo at *
      generalize ((ofA l c).getD i iv0).hi = hi' at *
      subst a0
      refine Runs.mk tabOK Try.call24 Try.func24 rfl Try.ntmps24 Try.results24 rfl ?_
      (repeat' (first
    | (intro Q h; refine h ?_; clear h Q)
    | refine bcase_t (by first | exact beq_self_eq_true _ | decide) ?_
    | refine bcase_f (by decide) ?_
    | (refine bcase_mk (fun hb => ?_) (fun hb => ?_) <;> (try simp only [nS, nT, eq_self, reduceCtorEq] at hb) <;> (try (exfalso; (omega); done)))
    | refine draw_mk (by decide +kernel) ?_
    | refine seq_go ?_
    | refine And.intro (by first | omega | ((try simp only [wS]); omega) | rfl | decide) ?_
    | (refine loop_go 3 ?_)
    | ((first | apply call_detx [some 0, some 1] (hw0) ); (focus ((iterate 2 (all_goals (repeat' (first | exact subL_nil | exact trivial | (intro Q h; refine h ?_; clear h Q) | refine And.intro ?_ ?_ | refine subL_cons ?_ ?_ | refine sub_agg ?_ | exact sub_sl rfl rfl rfl | exact sub_refl_val _ _ | exact sub_sbl rfl | exact row_same rfl rfl rfl | refine sub_sbl ?_ )))); done)); (any_goals (first | (apply nodup_mk; rfl) )))
    | ((first | apply call_detx [some 0, some 1] (hw1) ); (focus ((iterate 2 (all_goals (repeat' (first | exact subL_nil | exact trivial | (intro Q h; refine h ?_; clear h Q) | refine And.intro ?_ ?_ | refine subL_cons ?_ ?_ | refine sub_agg ?_ | exact sub_sl rfl rfl rfl | exact sub_refl_val _ _ | exact sub_sbl rfl | exact row_same rfl rfl rfl )))); done)); (any_goals (first | (apply nodup_mk; rfl) )))
    | ((first | apply calld_detx [some 0, some 1, some _] (k2)); (focus ((iterate 2 (all_goals (repeat' (first | exact subL_nil | exact trivial | (intro Q h; refine h ?_; clear h Q) | refine And.intro ?_ ?_ | refine subL_cons ?_ ?_ | refine sub_agg ?_ | exact sub_sl rfl rfl rfl | exact sub_refl_val _ _ | exact row_same rfl rfl rfl | exact row_ren rfl rfl rfl )))))); (any_goals (first | (apply nodup_mk2; rfl) )))
    | (apply ret_mk [some 0, some 1]; (focus (iterate 2 (all_goals (repeat' (first | exact trivial | (intro Q h; refine h ?_; clear h Q) | refine And.intro ?_ ?_ | exact sub_sbl rfl | exact row_same rfl rfl rfl ))))); (any_goals (apply okIx_mk; rfl)))
    ))
  · obtain ⟨m1, m2, m3⟩ := hk false e0
    rw [e0] at hw0
    simp only [cond_false] at m3
    rcases n1 with ⟨a1, e1⟩ | ⟨a1, e1⟩
    · have L1 : wiL l c i true = [] := by unfold wiL; rw [e1]; rfl
      rw [e1, L1] at hw1
      clear hk
      generalize wiL l c i false = W0 at *
      generalize ((ofA l c).getD i iv0).lo = lo at *
      generalize ((ofA l c).getD i iv0).hi = hi' at *
      subst a1
      refine Runs.mk tabOK Try.call24 Try.func24 rfl Try.ntmps24 Try.results24 rfl ?_
      (repeat' (first
    | (intro Q h; refine h ?_; clear h Q)
    | refine bcase_t (by first | exact beq_self_eq_true _ | decide) ?_
    | refine bcase_f (by decide) ?_
    | (refine bcase_mk (fun hb => ?_) (fun hb => ?_) <;> (try simp only [nS, nT, eq_self, reduceCtorEq] at hb) <;> (try (exfalso; (omega); done)))
    | refine draw_mk (by decide +kernel) ?_
    | refine seq_go ?_
    | refine And.intro (by first | omega | ((try simp only [wS]); omega) | rfl | decide) ?_
    | (refine loop_go 3 ?_)
    | ((first | apply call_detx [some 0, some 1] (hw0) ); (focus ((iterate 2 (all_goals (repeat' (first | exact subL_nil | exact trivial | (intro Q h; refine h ?_; clear h Q) | refine And.intro ?_ ?_ | refine subL_cons ?_ ?_ | refine sub_agg ?_ | exact sub_sl rfl rfl rfl | exact sub_refl_val _ _ | exact sub_sbl rfl | exact row_same rfl rfl rfl | refine sub_sbl ?_ )))); done)); (any_goals (first | (apply nodup_mk; rfl) )))
    | ((first | apply call_detx [some 0, some 1] (hw1) ); (focus ((iterate 2 (all_goals (repeat' (first | exact subL_nil | exact trivial | (intro Q h; refine h ?_; clear h Q) | refine And.intro ?_ ?_ | refine subL_cons ?_ ?_ | refine sub_agg ?_ | exact sub_sl rfl rfl rfl | exact sub_refl_val _ _ | exact sub_sbl rfl | exact row_same rfl rfl rfl )))); done)); (any_goals (first | (apply nodup_mk; rfl) )))
    | ((first | apply calld_detx [some 0, some 1, some _] (m2)); (focus ((iterate 2 (all_goals (repeat' (first | exact subL_nil | exact trivial | (intro Q h; refine h ?_; clear h Q) | refine And.intro ?_ ?_ | refine subL_cons ?_ ?_ | refine sub_agg ?_ | exact sub_sl rfl rfl rfl | exact sub_refl_val _ _ | exact row_same rfl rfl rfl | exact row_ren rfl rfl rfl )))))); (any_goals (first | (apply nodup_mk2; rfl) )))
    | (apply ret_mk [some 0, some 1]; (focus (iterate 2 (all_goals (repeat' (first | exact trivial | (intro Q h; refine h ?_; clear h Q) | refine And.intro ?_ ?_ | exact sub_sbl rfl | exact row_same rfl rfl rfl ))))); (any_goals (apply okIx_mk; rfl)))
    ))
    · obtain ⟨k1, k2, k3⟩ := hk true e1
      rw [e1] at hw1
      simp only [cond_true] at k3
      clear hk
      generalize wiL l c i false = W0 at *
      generalize wiL l c i true = W1 at *
      generalize ((ofA l c).getD i iv0).lo = lo at *
      generalize ((ofA l c).getD i iv0).hi = hi' at *
      refine Runs.mk tabOK Try.call24 Try.func24 rfl Try.ntmps24 Try.results24 rfl ?_
      (repeat' (first
    | (intro Q h; refine h ?_; clear h Q)
    | refine bcase_t (by first | exact beq_self_eq_true _ | decide) ?_
    | refine bcase_f (by decide) ?_
    | (refine bcase_mk (fun hb => ?_) (fun hb => ?_) <;> (try simp only [nS, nT, eq_self, reduceCtorEq] at hb) <;> (try (exfalso; (omega); done)))
    | refine draw_mk (by decide +kernel) ?_
    | refine seq_go ?_
    | refine And.intro (by first | omega | ((try simp only [wS]); omega) | rfl | decide) ?_
    | (refine loop_go 3 ?_)
    | ((first | apply call_detx [some 0, some 1] (hw0) ); (focus ((iterate 2 (all_goals (repeat' (first | exact subL_nil | exact trivial | (intro Q h; refine h ?_; clear h Q) | refine And.intro ?_ ?_ | refine subL_cons ?_ ?_ | refine sub_agg ?_ | exact sub_sl rfl rfl rfl | exact sub_refl_val _ _ | exact sub_sbl rfl | exact row_same rfl rfl rfl | refine sub_sbl ?_ )))); done)); (any_goals (first | (apply nodup_mk; rfl) )))
    | ((first | apply call_detx [some 0, some 1] (hw1) ); (focus ((iterate 2 (all_goals (repeat' (first | exact subL_nil | exact trivial | (intro Q h; refine h ?_; clear h Q) | refine And.intro ?_ ?_ | refine subL_cons ?_ ?_ | refine sub_agg ?_ | exact sub_sl rfl rfl rfl | exact sub_refl_val _ _ | exact sub_sbl rfl | exact row_same rfl rfl rfl )))); done)); (any_goals (first | (apply nodup_mk; rfl) )))
    | ((first | apply calld_detx [some 0, some 1, some _] (m2)); (focus ((iterate 2 (all_goals (repeat' (first | exact subL_nil | exact trivial | (intro Q h; refine h ?_; clear h Q) | refine And.intro ?_ ?_ | refine subL_cons ?_ ?_ | refine sub_agg ?_ | exact sub_sl rfl rfl rfl | exact sub_refl_val _ _ | exact row_same rfl rfl rfl | exact row_ren rfl rfl rfl | ((first | refine sub_sl rfl rfl ?_ | show (_ : Nat) = _); first | with_reducible rfl | omega | ((try simp only [wS]); omega) | rfl) | refine row_ren rfl ?_ ?_)))); done)); (any_goals (first | (apply nodup_mk2; rfl) )))
    | ((first | apply calld_detx [some 0, some 1, some _] (k2)); (focus ((iterate 2 (all_goals (repeat' (first | exact subL_nil | exact trivial | (intro Q h; refine h ?_; clear h Q) | refine And.intro ?_ ?_ | refine subL_cons ?_ ?_ | refine sub_agg ?_ | exact sub_sl rfl rfl rfl | exact sub_refl_val _ _ | exact row_same rfl rfl rfl | exact row_ren rfl rfl rfl )))); done)); (any_goals (first | (apply nodup_mk2; rfl) )))
    | (apply ret_mk [some 0, some 1]; (focus (iterate 2 (all_goals (repeat' (first | exact trivial | (intro Q h; refine h ?_; clear h Q) | refine And.intro ?_ ?_ | exact sub_sbl rfl | exact row_same rfl rfl rfl ))))); (any_goals (apply okIx_mk; rfl)))
    ))
end Go.Vx.L53

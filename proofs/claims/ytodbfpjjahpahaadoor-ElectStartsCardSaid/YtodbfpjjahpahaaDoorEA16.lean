/- Lemmas of a small executor for the model, and contracts of functions, used for the law that this claim proves. No condition. -/
import Derived.Test.YtodbfpjjahpahaaDoorEA14
set_option linter.unusedSimpArgs false
set_option linter.unusedVariables false
set_option maxRecDepth 100000
namespace Go.Vx.L42
open Go Go.Proofs
theorem enE_start {l : List Ed} {ns : List Nd} (h : ckE ns.length l ns = 0) : enE ns.length l ns 0 [] = 0 := by
  unfold enE
  rw [if_neg (by omega), if_neg (by omega)]; exact if_pos rfl
set_option maxHeartbeats 4000000 in
theorem electStarts (n : Int) (l : List Ed) (cap : Option Nat) (hl : l.length ≤ maxLen) (ns : List Nd) (cap' : Option Nat) (hn : ns.length ≤ maxLen) (hwn : ∀ x, wfD (owD (ns.getD x nd0))) :
    Runs Tryd.prog 5 [aN n l cap ns cap'] [gB l, ndB ns] (Det (.sb true) [gB l, ndB ns]) := by
  have hmx : maxLen = 9223372036854775807 := by decide
  have haw := awake_ok
  by_cases hsm : ns.length ≤ 16
  rotate_left
  · refine Runs.mk tabOK Tryd.call5 Tryd.func5 rfl Tryd.ntmps5 Tryd.results5 rfl ?_
    (repeat' (first
    | (intro Q h; refine h ?_; clear h Q)
    | (refine bcase_mk (fun hb => ?_) (fun hb => ?_) <;> (try simp only [nS, nT, eq_self, reduceCtorEq] at hb) <;> (try (exfalso; (first | omega ); done)))
    | refine seq_go ?_
    | ((first | apply call0 (haw) ); (focus (iterate 2 (all_goals (repeat' (first | exact subL_nil ))))))
    | (apply ret_mk [some 0, some 1]; (focus (iterate 2 (all_goals (repeat' (first | exact row_same rfl rfl rfl | exact trivial | (intro Q h; refine h ?_; clear h Q) | refine And.intro ?_ ?_ | exact sub_sb rfl ))))); (any_goals (apply okIx_mk; rfl)))
    ))
  have hex := expected_ok n l cap hl ns cap' hn hwn
  by_cases hc : ckE n l ns = 0
  rotate_left
  · have hex := hex.1 hc
    generalize ckE n l ns = c at *
    refine Runs.mk tabOK Tryd.call5 Tryd.func5 rfl Tryd.ntmps5 Tryd.results5 rfl ?_
    (repeat' (first
    | (intro Q h; refine h ?_; clear h Q)
    | (refine bcase_mk (fun hb => ?_) (fun hb => ?_) <;> (try simp only [nS, nT, eq_self, reduceCtorEq] at hb) <;> (try (exfalso; (first | omega ); done)))
    | refine seq_go ?_
    | ((first | apply call_detx [some 0, some 1] (hex) ); (focus ((iterate 2 (all_goals (repeat' (first | exact row_same rfl rfl rfl | exact subL_nil | exact trivial | (intro Q h; refine h ?_; clear h Q) | refine And.intro ?_ ?_ | refine subL_cons ?_ ?_ | refine sub_agg ?_ | exact sub_sl rfl rfl rfl | exact sub_refl_val _ _ )))))); (any_goals (first | (apply nodup_mk; rfl) )))
    | ((first | apply call0 (haw) ); (focus (iterate 2 (all_goals (repeat' (first | exact subL_nil ))))))
    | (apply ret_mk [some 0, some 1]; (focus (iterate 2 (all_goals (repeat' (first | exact row_same rfl rfl rfl | exact trivial | (intro Q h; refine h ?_; clear h Q) | refine And.intro ?_ ?_ | exact sub_sb rfl ))))); (any_goals (apply okIx_mk; rfl)))
    ))
  have hex := hex.2 hc
  obtain ⟨_, hc2, _⟩ := ckE_zero hc
  subst hc2
  have hN : NOK ns l := ⟨hc, hwn⟩
  have hst := start_ok ns.length l cap ns cap'
  have he := enE_start hc
  have hr : runE ns.length l ns 0 [] ns.length = 0 := by unfold runE; rw [he, if_neg (by decide), if_neg (by omega)]
  have hru := (run_ok l cap hl ns cap' hn hwn ns.length 0 [] none (by decide) (fun m h => by cases h) ns.length).2 hr
  have hV := vs_run hN (sok_ent (ns := ns) (l := l) (ms := []) (by rfl) (fun m h => by cases h)) ((ns.length : Int)).toNat
  have hrs := rsL_starts hN (t := ((ns.length : Int)).toNat) (by omega) (s := entS (lxA (rsN ns l) ((netP ns l).run (memOf (entS [])) ((ns.length : Int)).toNat) ns.length)) (by rw [memOf_lx hN hV, memOf_nil])
  have hLl := lxA_len (ns := ns) (l := l) ((netP ns l).run (memOf (entS [])) ((ns.length : Int)).toNat) ns.length
  have hre := result_ok ns.length l cap hl ns cap' hn hwn (0 + (ns.length : Int)) _ none (by omega) (lx_wf hV) (enE_run hN hV (by omega))
  rw [hrs] at hre
  have hsa := same_ok (exL ns l ns.length) none none (by rw [exL_len]; omega)
  rw [exL_len] at hsa
  have hEl := exL_len ns l ns.length
  generalize hM : lxA (rsN ns l) ((netP ns l).run (memOf (entS [])) ((ns.length : Int)).toNat) ns.length = L at *
  have hM' : lsX ns.length (prR ns.length l ns.length) ((netP ns l).run (memOf (entS [])) ((ns.length : Int)).toNat) = L := hM
  rw [hM'] at hru
  generalize exL ns l ns.length = E at *
  refine Runs.mk tabOK Tryd.call5 Tryd.func5 rfl Tryd.ntmps5 Tryd.results5 rfl ?_
  (repeat' (first
    | (intro Q h; refine h ?_; clear h Q)
    | (with_reducible refine bcase_true ?_)
    | (refine bcase_mk (fun hb => ?_) (fun hb => ?_) <;> (try simp only [nS, nT, eq_self, reduceCtorEq] at hb) <;> (try (exfalso; (first | omega ); done)))
    | refine draw_mk (by decide +kernel) ?_
    | refine seq_go ?_
    | ((first | apply call_detx [some 0, some 1] (hex) ); (focus ((iterate 2 (all_goals (repeat' (first | exact row_same rfl rfl rfl | exact subL_nil | exact trivial | (intro Q h; refine h ?_; clear h Q) | refine And.intro ?_ ?_ | refine subL_cons ?_ ?_ | refine sub_agg ?_ | exact sub_sl rfl rfl rfl | exact sub_refl_val _ _ )))))); (any_goals (first | (apply nodup_mk; rfl) )))
    | ((first | apply calld_detx [some 0, some 1] (hst)); (focus ((iterate 2 (all_goals (repeat' (first | exact row_same rfl rfl rfl | exact subL_nil | exact trivial | (intro Q h; refine h ?_; clear h Q) | refine And.intro ?_ ?_ | refine subL_cons ?_ ?_ | refine sub_agg ?_ | exact sub_sl rfl rfl rfl | exact sub_refl_val _ _ )))); done)); (any_goals (first | (apply nodup_mk2; rfl) )))
    | ((first | apply calld_detx [some 0, some 1, none] (hru)); (focus ((iterate 2 (all_goals (repeat' (first | exact row_same rfl rfl rfl | exact subL_nil | exact trivial | (intro Q h; refine h ?_; clear h Q) | refine And.intro ?_ ?_ | refine subL_cons ?_ ?_ | refine sub_agg ?_ | exact sub_sl rfl rfl rfl | exact sub_refl_val _ _ | exact sub_nil rfl | ((first | refine virt_mk ?_ ); first | with_reducible rfl | omega | ((try simp only [wS]); omega) | rfl) )))); done)); (any_goals (first | (apply nodup_mk2; rfl) )))
    | ((first | apply call_detx [some 0, some 1, some 4] (hre) ); (focus ((iterate 2 (all_goals (repeat' (first | exact row_same rfl rfl rfl | exact subL_nil | exact trivial | (intro Q h; refine h ?_; clear h Q) | refine And.intro ?_ ?_ | refine subL_cons ?_ ?_ | refine sub_agg ?_ | exact sub_sl rfl rfl rfl | exact sub_refl_val _ _ | exact row_ren rfl rfl rfl )))))); (any_goals (first | (apply nodup_mk; rfl) )))
    | ((first | apply call_detx [some 6, some 3] (hsa) ); (focus ((iterate 2 (all_goals (repeat' (first | exact subL_nil | exact trivial | (intro Q h; refine h ?_; clear h Q) | refine And.intro ?_ ?_ | refine subL_cons ?_ ?_ | exact sub_sl rfl rfl rfl | exact row_ren rfl rfl rfl )))))); (any_goals (first | (apply nodup_mk; rfl) )))
    | ((first | apply call0 (haw) ); (focus (iterate 2 (all_goals (repeat' (first | exact subL_nil ))))))
    | (apply ret_mk [some 0, some 1]; (focus (iterate 2 (all_goals (repeat' (first | exact row_same rfl rfl rfl | exact trivial | (intro Q h; refine h ?_; clear h Q) | refine And.intro ?_ ?_ | exact sub_sb rfl ))))); (any_goals (apply okIx_mk; rfl)))
    ))
end Go.Vx.L42

/- Lemmas of a small executor for the model, and contracts of functions, used for the law that this claim proves. No condition. -/
import Derived.Test.YtodbfpjjahpahaaDoorEA14
import Derived.Test.YtodbfpjjahpahaaDoorEP6
set_option linter.unusedSimpArgs false
set_option linter.unusedVariables false
set_option maxRecDepth 100000
namespace Go.Vx.L42
open Go Go.Proofs
set_option maxHeartbeats 4000000 in
theorem electOrders (n : Int) (l : List Ed) (cap : Option Nat) (hl : l.length ≤ maxLen) (ns : List Nd) (cap' : Option Nat) (hn : ns.length ≤ maxLen) (hwn : ∀ x, wfD (owD (ns.getD x nd0))) :
    Runs Tryd.prog 6 [aN n l cap ns cap'] [gB l, ndB ns] (Det (.sb true) [gB l, ndB ns]) := by
  have hmx : maxLen = 9223372036854775807 := by decide
  have haw := awake_ok
  by_cases h64 : l.length ≤ 64
  rotate_left
  · refine Runs.mk tabOK Tryd.call6 Tryd.func6 rfl Tryd.ntmps6 Tryd.results6 rfl ?_
    (repeat' (first
    | (intro Q h; refine h ?_; clear h Q)
    | (refine bcase_mk (fun hb => ?_) (fun hb => ?_) <;> (try simp only [nS, nT, eq_self, reduceCtorEq] at hb) <;> (try (exfalso; (first | omega ); done)))
    | refine seq_go ?_
    | ((first | apply call0 (haw) ); (focus (iterate 2 (all_goals (repeat' (first | exact subL_nil ))))))
    | (apply ret_mk [some 0, some 1]; (focus (iterate 2 (all_goals (repeat' (first | exact row_same rfl rfl rfl | exact trivial | (intro Q h; refine h ?_; clear h Q) | refine And.intro ?_ ?_ | exact sub_sb rfl ))))); (any_goals (apply okIx_mk; rfl)))
    ))
  have hck := echeck_ok n l cap hl ns cap' hn
  by_cases hc : ckE n l ns = 0
  rotate_left
  · generalize ckE n l ns = c at *
    refine Runs.mk tabOK Tryd.call6 Tryd.func6 rfl Tryd.ntmps6 Tryd.results6 rfl ?_
    (repeat' (first
    | (intro Q h; refine h ?_; clear h Q)
    | (refine bcase_mk (fun hb => ?_) (fun hb => ?_) <;> (try simp only [nS, nT, eq_self, reduceCtorEq] at hb) <;> (try (exfalso; (first | omega ); done)))
    | refine seq_go ?_
    | ((first | apply call_detx [some 0, some 1] (hck) ); (focus ((iterate 2 (all_goals (repeat' (first | exact row_same rfl rfl rfl | exact subL_nil | exact trivial | (intro Q h; refine h ?_; clear h Q) | refine And.intro ?_ ?_ | refine subL_cons ?_ ?_ | refine sub_agg ?_ | exact sub_sl rfl rfl rfl | exact sub_refl_val _ _ )))))); (any_goals (first | (apply nodup_mk; rfl) )))
    | ((first | apply call0 (haw) ); (focus (iterate 2 (all_goals (repeat' (first | exact subL_nil ))))))
    | (apply ret_mk [some 0, some 1]; (focus (iterate 2 (all_goals (repeat' (first | exact row_same rfl rfl rfl | exact trivial | (intro Q h; refine h ?_; clear h Q) | refine And.intro ?_ ?_ | exact sub_sb rfl ))))); (any_goals (apply okIx_mk; rfl)))
    ))
  rw [hc] at hck
  obtain ⟨_, hc2, _⟩ := ckE_zero hc
  subst hc2
  have hN : NOK ns l := ⟨hc, hwn⟩
  have hN' : NOK ns (rvE l l.length) := ⟨ckE_rv hc, hwn⟩
  have hn24 := hN.parts.2.1
  have hrl := rvE_len l l.length
  have hex := (expected_ok ns.length l cap hl ns cap' hn hwn).2 hc
  have hex' := (expected_ok ns.length (rvE l l.length) none (by rw [hrl]; exact hl) ns cap' hn hwn).2 hN'.ck
  rw [exL_rv hN hN' _ (Nat.le_refl _)] at hex'
  have hsa := same_ok (exL ns l ns.length) none none (by rw [exL_len]; omega)
  rw [exL_len] at hsa
  have hEl := exL_len ns l ns.length
  generalize exL ns l ns.length = E at *
  refine Runs.mk tabOK Tryd.call6 Tryd.func6 rfl Tryd.ntmps6 Tryd.results6 rfl ?_
  (repeat' (first
    | (intro Q h; refine h ?_; clear h Q)
    | (refine bcase_mk (fun hb => ?_) (fun hb => ?_) <;> (try simp only [nS, nT, eq_self, reduceCtorEq] at hb) <;> (try (exfalso; (first | omega ); done)))
    | refine seq_go ?_
    | ((first | apply call_detx [some 0, some 1] (hck) ); (focus ((iterate 2 (all_goals (repeat' (first | exact row_same rfl rfl rfl | exact subL_nil | exact trivial | (intro Q h; refine h ?_; clear h Q) | refine And.intro ?_ ?_ | refine subL_cons ?_ ?_ | refine sub_agg ?_ | exact sub_sl rfl rfl rfl | exact sub_refl_val _ _ )))))); (any_goals (first | (apply nodup_mk; rfl) )))
    ))
  refine loop_inv (σ := Nat) (fun x => x ≤ l.length) (fun x => ⟨[(1, .ptr 2 3 0 0), (3, .ptr 3 3 0 0), (4, .val (.int .i64 ((l.length : Int) - 1 - x)))], [gB l, ndB ns, .var [.val (.int .i64 ns.length), .sl 0 4 0 l.length cap, .sl 1 6 0 ns.length cap'], .var [.val (.int .i64 ns.length), .sl 4 4 0 x none, .sl 1 6 0 ns.length cap'], .arr true 66 4 x (edF (rvE l x))]⟩) (fun x => l.length - x) (0) ?_ ?_ ?_
  · omega
  · (apply le_mk [some 0, some 1, some 2, some 3, none]; (focus (iterate 2 (all_goals (repeat' (first | exact row_same rfl rfl rfl | exact subL_nil | exact trivial | (intro Q h; refine h ?_; clear h Q) | refine And.intro ?_ ?_ | refine subL_cons ?_ ?_ | refine var_mk ?_ | exact sub_ptr rfl rfl | exact sub_sl rfl rfl rfl | exact sub_refl_val _ _ | exact sub_nil rfl | ((first | refine sub_int ?_ | refine virt_mk ?_ ); first | with_reducible rfl | omega | ((try simp only [wS]); omega) | rfl) ))))); (any_goals (apply okIx_mk; rfl)))
  rintro x hx
  by_cases hxl : x < l.length
  · have hlx := rvE_len l x
    have hix : Int.toNat ((l.length : Int) - 1 - x) = l.length - 1 - x := by omega
    have hz : 0 + Int.toNat ((l.length : Int) - 1 - x) = l.length - 1 - x := by omega
    have htm : ((l.length : Int) - 1 - x).tmod 2 = ((l.length : Int) - 1 - x) % 2 := Int.tmod_eq_emod_of_nonneg (by omega)
    have hS : rvE l (x + 1) = rvE l x ++ [flE (l.length - 1 - x) (l.getD (0 + Int.toNat ((l.length : Int) - 1 - x)) ed0)] := by rw [hz]; rfl
    generalize hq' : rvE l (x + 1) = q' at *
    generalize rvE l x = q at *
    by_cases hp : (l.length - 1 - x) % 2 = 0
    · rw [show flE (l.length - 1 - x) (l.getD (0 + Int.toNat ((l.length : Int) - 1 - x)) ed0) = (⟨(l.getD (0 + Int.toNat ((l.length : Int) - 1 - x)) ed0).b, (l.getD (0 + Int.toNat ((l.length : Int) - 1 - x)) ed0).pb, (l.getD (0 + Int.toNat ((l.length : Int) - 1 - x)) ed0).a, (l.getD (0 + Int.toNat ((l.length : Int) - 1 - x)) ed0).pa⟩ : Ed) from if_pos hp] at hS
      (repeat' (first
    | (intro Q h; refine h ?_; clear h Q)
    | (refine bcase_mk (fun hb => ?_) (fun hb => ?_) <;> (try simp only [nS, nT, eq_self, reduceCtorEq] at hb) <;> (try (exfalso; (first | omega ); done)))
    | refine seq_go ?_
    | refine And.intro (by first | omega | ((try simp only [wS]); omega) | rfl | decide) ?_
    | (apply next_sub (Subtype.mk (x + 1) (by first | omega | (simp only; omega))); (focus (rw [hq', hS]; apply le_mk [some 0, some 1, some 2, some 3, some 7]; (focus (iterate 2 (all_goals (repeat' (first | exact row_same rfl rfl rfl | exact subL_nil | exact trivial | (intro Q h; refine h ?_; clear h Q) | refine And.intro ?_ ?_ | refine subL_cons ?_ ?_ | refine var_mk ?_ | exact sub_ptr rfl rfl | exact sub_sl rfl rfl rfl | exact sub_refl_val _ _ | ((first | refine sub_int ?_ | show (_ : Nat) = _); first | with_reducible rfl | omega | ((try simp only [wS]); omega) | rfl) | apply row_app1 | refine cells_succ ?_ ?_ | exact cell0 | with_reducible rfl | refine sub_int ?_ ))))); (any_goals (apply okIx_mk; rfl)))); (all_goals (try (first | (simp only; omega)))))
    ))
    · rw [show flE (l.length - 1 - x) (l.getD (0 + Int.toNat ((l.length : Int) - 1 - x)) ed0) = l.getD (0 + Int.toNat ((l.length : Int) - 1 - x)) ed0 from if_neg hp] at hS
      (repeat' (first
    | (intro Q h; refine h ?_; clear h Q)
    | (refine bcase_mk (fun hb => ?_) (fun hb => ?_) <;> (try simp only [nS, nT, eq_self, reduceCtorEq] at hb) <;> (try (exfalso; (first | omega ); done)))
    | refine seq_go ?_
    | refine And.intro (by first | omega | ((try simp only [wS]); omega) | rfl | decide) ?_
    | (apply next_sub (Subtype.mk (x + 1) (by first | omega | (simp only; omega))); (focus (rw [hq', hS]; apply le_mk [some 0, some 1, some 2, some 3, some 7]; (focus (iterate 2 (all_goals (repeat' (first | exact row_same rfl rfl rfl | exact subL_nil | exact trivial | (intro Q h; refine h ?_; clear h Q) | refine And.intro ?_ ?_ | refine subL_cons ?_ ?_ | refine var_mk ?_ | exact sub_ptr rfl rfl | exact sub_sl rfl rfl rfl | exact sub_refl_val _ _ | ((first | refine sub_int ?_ | show (_ : Nat) = _); first | with_reducible rfl | omega | ((try simp only [wS]); omega) | rfl) | apply row_app1 | refine cells_succ ?_ ?_ | exact cell0 | with_reducible rfl ))))); (any_goals (apply okIx_mk; rfl)))); (all_goals (try (first | (simp only; omega)))))
    ))
  · obtain rfl : x = l.length := by omega
    (repeat' (first
    | (intro Q h; refine h ?_; clear h Q)
    | (with_reducible refine bcase_true ?_)
    | (refine bcase_mk (fun hb => ?_) (fun hb => ?_) <;> (try simp only [nS, nT, eq_self, reduceCtorEq] at hb) <;> (try (exfalso; (first | omega ); done)))
    | refine seq_go ?_
    | ((first | apply call_detx [some 0, some 1] (hex) ); (focus ((iterate 2 (all_goals (repeat' (first | exact row_same rfl rfl rfl | exact subL_nil | exact trivial | (intro Q h; refine h ?_; clear h Q) | refine And.intro ?_ ?_ | refine subL_cons ?_ ?_ | refine sub_agg ?_ | exact sub_sl rfl rfl rfl | exact sub_refl_val _ _ )))); done)); (any_goals (first | (apply nodup_mk; rfl) )))
    | ((first | apply call_detx [some 4, some 1] (hex') ); (focus ((iterate 2 (all_goals (repeat' (first | exact row_same rfl rfl rfl | exact subL_nil | exact trivial | (intro Q h; refine h ?_; clear h Q) | refine And.intro ?_ ?_ | refine subL_cons ?_ ?_ | refine sub_agg ?_ | exact sub_sl rfl rfl rfl | exact sub_refl_val _ _ | ((first | refine sub_sl rfl rfl ?_ | show (_ : Nat) = _); first | with_reducible rfl | omega | ((try simp only [wS]); omega) | rfl) | with_reducible rfl | refine row_same rfl ?_ ?_ )))); done)); (any_goals (first | (apply nodup_mk; rfl) )))
    | ((first | apply call_detx [some 5, some 6] (hsa) ); (focus ((iterate 2 (all_goals (repeat' (first | exact subL_nil | exact trivial | (intro Q h; refine h ?_; clear h Q) | refine And.intro ?_ ?_ | refine subL_cons ?_ ?_ | exact sub_sl rfl rfl rfl | exact row_ren rfl rfl rfl )))))); (any_goals (first | (apply nodup_mk; rfl) )))
    | ((first | apply call0 (haw) ); (focus (iterate 2 (all_goals (repeat' (first | exact subL_nil ))))))
    | (apply ret_mk [some 0, some 1]; (focus (iterate 2 (all_goals (repeat' (first | exact row_same rfl rfl rfl | exact trivial | (intro Q h; refine h ?_; clear h Q) | refine And.intro ?_ ?_ | exact sub_sb rfl ))))); (any_goals (apply okIx_mk; rfl)))
    ))
end Go.Vx.L42

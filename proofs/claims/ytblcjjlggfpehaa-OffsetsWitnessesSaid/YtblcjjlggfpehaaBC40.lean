/- Lemmas of a small executor for the model, and contracts of functions, used for the law that this claim proves. No condition. -/
import Derived.Test.YtblcjjlggfpehaaBC39
import Derived.Test.YtblcjjlggfpehaaBC36
set_option linter.unusedSimpArgs false
set_option linter.unusedVariables false
set_option maxRecDepth 100000
namespace Go.Vx.L53
open Go Go.Proofs
set_option maxHeartbeats 2000000 in
theorem rwitness_ok (l : List En) (cap : Option Nat) (c : Cf) (cap2 : Option Nat) (i : Int) (hi : Bool) (hl : l.length ≤ maxLen) (hc : c.tol.length ≤ maxLen) :
    Runs Try.prog 21 [aL l cap, aC c 1 cap2, .val (.int .i64 i), .sb hi] [gL l, gT c] (Det (.tup [.sl 2 1 0 (wiL l c i hi).length none, .val (.int .i64 (wiE l c i hi))]) [gL l, gT c, iB true (wiL l c i hi)]) := by
  have hmx : maxLen = 9223372036854775807 := by decide
  have hsy := rsystem_ok l cap c cap2 hl hc
  have hsl := sysA_len l c
  have bad : ∀ w, w ≠ 0 → wiE l c i hi = w → wiL l c i hi = [] := fun w h1 h2 => by unfold wiL; rw [h2, if_neg h1]
  by_cases h0 : sysE l c = 0
  rotate_left
  · have hE : wiE l c i hi = sysE l c := by unfold wiE; rw [if_pos h0]
    rw [bad _ h0 hE, hE]
    generalize sysE l c = w at *
    refine Runs.mk tabOK Try.call21 Try.func21 rfl Try.ntmps21 Try.results21 rfl ?_
    (repeat' (first
    | (intro Q h; refine h ?_; clear h Q)
    | (refine bcase_mk (fun hb => ?_) (fun hb => ?_) <;> (try simp only [nS, nT, eq_self, reduceCtorEq] at hb) <;> (try (exfalso; (omega); done)))
    | refine seq_go ?_
    | ((first | apply call_detx [some 0, some 1] (hsy) ); (focus ((iterate 2 (all_goals (repeat' (first | exact subL_nil | exact trivial | (intro Q h; refine h ?_; clear h Q) | refine And.intro ?_ ?_ | refine subL_cons ?_ ?_ | refine sub_agg ?_ | exact sub_sl rfl rfl rfl | exact sub_refl_val _ _ | exact row_same rfl rfl rfl )))))); (any_goals (first | (apply nodup_mk; rfl) )))
    | (apply ret_mk [some 0, some 1, none]; (focus (iterate 2 (all_goals (repeat' (first | exact subL_nil | exact trivial | (intro Q h; refine h ?_; clear h Q) | refine And.intro ?_ ?_ | refine subL_cons ?_ ?_ | refine sub_tup ?_ | exact sub_refl_val _ _ | exact row_same rfl rfl rfl | exact sub_nil rfl | ((first | refine virt_mk ?_ ); first | with_reducible rfl | omega | ((try simp only [wS]); omega) | rfl) ))))); (any_goals (apply okIx_mk; rfl)))
    ))
  rw [h0] at hsy
  by_cases h1 : 0 ≤ i ∧ i < l.length
  rotate_left
  · have hE : wiE l c i hi = 3 := by unfold wiE; rw [if_neg (not_not_intro h0), if_pos h1]
    rw [bad _ (by decide) hE, hE]
    refine Runs.mk tabOK Try.call21 Try.func21 rfl Try.ntmps21 Try.results21 rfl ?_
    (repeat' (first
    | (intro Q h; refine h ?_; clear h Q)
    | (refine bcase_mk (fun hb => ?_) (fun hb => ?_) <;> (try simp only [nS, nT, eq_self, reduceCtorEq] at hb) <;> (try (exfalso; (omega); done)))
    | refine seq_go ?_
    | ((first | apply call_detx [some 0, some 1] (hsy) ); (focus ((iterate 2 (all_goals (repeat' (first | exact subL_nil | exact trivial | (intro Q h; refine h ?_; clear h Q) | refine And.intro ?_ ?_ | refine subL_cons ?_ ?_ | refine sub_agg ?_ | exact sub_sl rfl rfl rfl | exact sub_refl_val _ _ | exact row_same rfl rfl rfl )))))); (any_goals (first | (apply nodup_mk; rfl) )))
    | (apply ret_mk [some 0, some 1, none]; (focus (iterate 2 (all_goals (repeat' (first | exact subL_nil | exact trivial | (intro Q h; refine h ?_; clear h Q) | refine And.intro ?_ ?_ | refine subL_cons ?_ ?_ | refine sub_tup ?_ | exact sub_refl_val _ _ | exact row_same rfl rfl rfl | exact sub_nil rfl | ((first | refine virt_mk ?_ ); first | with_reducible rfl | omega | ((try simp only [wS]); omega) | rfl) ))))); (any_goals (apply okIx_mk; rfl)))
    ))
  have htg := rtight_ok (sysN l c) (sysA l c) none (by omega) (wiA i hi) (wiB i hi)
  have hE : wiE l c i hi = tgE (sysN l c) (sysA l c) (wiA i hi) (wiB i hi) := by unfold wiE; rw [if_neg (not_not_intro h0), if_neg (not_not_intro h1)]
  have hN : sysN l c = l.length + 1 := by unfold sysN; rw [if_pos h0]
  obtain ⟨z1, z2, z3, _⟩ := sys_zero h0
  by_cases h2 : tgE (sysN l c) (sysA l c) (wiA i hi) (wiB i hi) = 0
  rotate_left
  · have hA : tgA (sysN l c) (sysA l c) (wiA i hi) (wiB i hi) = [] := by unfold tgA; rw [if_neg h2]
    rw [bad _ h2 hE, hE]
    rw [hA] at htg
    generalize tgE (sysN l c) (sysA l c) (wiA i hi) (wiB i hi) = w at *
    cases hi
    · unfold wiA wiB at htg
      simp only [cond_false] at htg
      refine Runs.mk tabOK Try.call21 Try.func21 rfl Try.ntmps21 Try.results21 rfl ?_
      (repeat' (first
    | (intro Q h; refine h ?_; clear h Q)
    | (with_reducible refine bcase_false ?_)
    | (refine bcase_mk (fun hb => ?_) (fun hb => ?_) <;> (try simp only [nS, nT, eq_self, reduceCtorEq] at hb) <;> (try (exfalso; (omega); done)))
    | refine seq_go ?_
    | ((first | apply call_detx [some 0, some 1] (hsy) ); (focus ((iterate 2 (all_goals (repeat' (first | exact subL_nil | exact trivial | (intro Q h; refine h ?_; clear h Q) | refine And.intro ?_ ?_ | refine subL_cons ?_ ?_ | refine sub_agg ?_ | exact sub_sl rfl rfl rfl | exact sub_refl_val _ _ | exact row_same rfl rfl rfl )))))); (any_goals (first | (apply nodup_mk; rfl) )))
    | ((first | apply call1 (htg) ); (focus (iterate 2 (all_goals (repeat' (first | exact subL_nil | exact trivial | (intro Q h; refine h ?_; clear h Q) | refine And.intro ?_ ?_ | refine subL_cons ?_ ?_ | exact sub_sl rfl rfl rfl | exact sub_refl_val _ _ | exact row_ren rfl rfl rfl | ((first | refine sub_int ?_ ); first | with_reducible rfl | omega | ((try simp only [wS]); omega) | rfl) ))))); (try (any_goals fail)))
    | (apply ret_mk [some 0, some 1, none]; (focus (iterate 2 (all_goals (repeat' (first | exact subL_nil | exact trivial | (intro Q h; refine h ?_; clear h Q) | refine And.intro ?_ ?_ | refine subL_cons ?_ ?_ | refine sub_tup ?_ | exact sub_refl_val _ _ | exact row_same rfl rfl rfl | exact sub_nil rfl | ((first | refine virt_mk ?_ ); first | with_reducible rfl | omega | ((try simp only [wS]); omega) | rfl) ))))); (any_goals (apply okIx_mk; rfl)))
    ))
    · unfold wiA wiB at htg
      simp only [cond_true] at htg
      refine Runs.mk tabOK Try.call21 Try.func21 rfl Try.ntmps21 Try.results21 rfl ?_
      (repeat' (first
    | (intro Q h; refine h ?_; clear h Q)
    | (with_reducible refine bcase_true ?_)
    | (refine bcase_mk (fun hb => ?_) (fun hb => ?_) <;> (try simp only [nS, nT, eq_self, reduceCtorEq] at hb) <;> (try (exfalso; (omega); done)))
    | refine seq_go ?_
    | ((first | apply call_detx [some 0, some 1] (hsy) ); (focus ((iterate 2 (all_goals (repeat' (first | exact subL_nil | exact trivial | (intro Q h; refine h ?_; clear h Q) | refine And.intro ?_ ?_ | refine subL_cons ?_ ?_ | refine sub_agg ?_ | exact sub_sl rfl rfl rfl | exact sub_refl_val _ _ | exact row_same rfl rfl rfl )))))); (any_goals (first | (apply nodup_mk; rfl) )))
    | ((first | apply call1 (htg) ); (focus (iterate 2 (all_goals (repeat' (first | exact subL_nil | exact trivial | (intro Q h; refine h ?_; clear h Q) | refine And.intro ?_ ?_ | refine subL_cons ?_ ?_ | exact sub_sl rfl rfl rfl | exact sub_refl_val _ _ | exact row_ren rfl rfl rfl | ((first | refine sub_int ?_ ); first | with_reducible rfl | omega | ((try simp only [wS]); omega) | rfl) ))))); (try (any_goals fail)))
    | (apply ret_mk [some 0, some 1, none]; (focus (iterate 2 (all_goals (repeat' (first | exact subL_nil | exact trivial | (intro Q h; refine h ?_; clear h Q) | refine And.intro ?_ ?_ | refine subL_cons ?_ ?_ | refine sub_tup ?_ | exact sub_refl_val _ _ | exact row_same rfl rfl rfl | exact sub_nil rfl | ((first | refine virt_mk ?_ ); first | with_reducible rfl | omega | ((try simp only [wS]); omega) | rfl) ))))); (any_goals (apply okIx_mk; rfl)))
    ))
  have hTl := tgA_len h2
  rw [show (sysN l c).toNat = l.length + 1 by rw [hN]; omega] at hTl
  have hTA : tgA (sysN l c) (sysA l c) (wiA i hi) (wiB i hi) = wiX l c i hi := by unfold tgA wiX; rw [if_pos h2, hN, show ((l.length : Int) + 1).toNat = l.length + 1 by omega]
  have hW : wiL l c i hi = (List.range l.length).map (wiV (wiX l c i hi)) := by unfold wiL; rw [if_pos (hE.trans h2)]
  rw [hTA] at hTl htg
  rw [h2, hTl] at htg
  rw [hW, hE, h2]
  have hYl : ∀ x, ((List.range x).map (wiV (wiX l c i hi))).length = x := fun x => by simp
  have hYs : ∀ x, (List.range (x + 1)).map (wiV (wiX l c i hi)) = (List.range x).map (wiV (wiX l c i hi)) ++ [wiV (wiX l c i hi) x] := fun x => by rw [List.range_succ, List.map_append]; rfl
  have hY0 : (List.range 0).map (wiV (wiX l c i hi)) = [] := rfl
  have hV : ∀ j, wiV (wiX l c i hi) j = IntKind.i64.wrap ((wiX l c i hi).getD (j + 1) 0 - (wiX l c i hi).getD 0 0) := fun _ => rfl
  generalize wiX l c i hi = X at *
  generalize wiV X = V at *
  obtain ⟨Y, hYY⟩ : ∃ Y : Nat → List Int, ∀ x, (List.range x).map V = Y x := ⟨_, fun _ => rfl⟩
  simp only [hYY] at hYl hYs hY0 ⊢
  clear hYY
  rw [hN] at hsy htg
  cases hi
  · unfold wiA wiB at htg
    simp only [cond_false] at htg
    refine Runs.mk tabOK Try.call21 Try.func21 rfl Try.ntmps21 Try.results21 rfl ?_
    (repeat' (first
    | (intro Q h; refine h ?_; clear h Q)
    | (with_reducible refine bcase_false ?_)
    | (refine bcase_mk (fun hb => ?_) (fun hb => ?_) <;> (try simp only [nS, nT, eq_self, reduceCtorEq] at hb) <;> (try (exfalso; (omega); done)))
    | refine seq_go ?_
    | ((first | apply call_detx [some 0, some 1] (hsy) ); (focus ((iterate 2 (all_goals (repeat' (first | exact subL_nil | exact trivial | (intro Q h; refine h ?_; clear h Q) | refine And.intro ?_ ?_ | refine subL_cons ?_ ?_ | refine sub_agg ?_ | exact sub_sl rfl rfl rfl | exact sub_refl_val _ _ | exact row_same rfl rfl rfl )))))); (any_goals (first | (apply nodup_mk; rfl) )))
    | ((first | apply call1 (htg) ); (focus (iterate 2 (all_goals (repeat' (first | exact subL_nil | exact trivial | (intro Q h; refine h ?_; clear h Q) | refine And.intro ?_ ?_ | refine subL_cons ?_ ?_ | exact sub_sl rfl rfl rfl | exact sub_refl_val _ _ | exact row_ren rfl rfl rfl | ((first | refine sub_int ?_ ); first | with_reducible rfl | omega | ((try simp only [wS]); omega) | rfl) ))))); (try (any_goals fail)))
    ))
    refine loop_inv (σ := Nat) (fun x => x ≤ l.length) (fun x => ⟨[(10, .val (.int .i64 ((l.length : Int) + 1))), (15, .sl 2 1 0 (l.length + 1) none), (16, .sl 3 1 0 x none), (17, .val (.int .i64 ((x : Int) + 1)))], [gL l, gT c, iB true X, iB true (Y x)]⟩) (fun x => l.length - x) (0) ?_ ?_ ?_
    · omega
    · rw [hY0]
      (apply le_mk [some 0, some 1, some 4, none]; (focus (iterate 2 (all_goals (repeat' (first | exact trivial | (intro Q h; refine h ?_; clear h Q) | refine And.intro ?_ ?_ | exact sub_sl rfl rfl rfl | exact sub_refl_val _ _ | exact row_same rfl rfl rfl | exact row_ren rfl rfl rfl | exact sub_nil rfl | ((first | refine virt_mk ?_ ); first | with_reducible rfl | omega | ((try simp only [wS]); omega) | rfl) ))))); (any_goals (apply okIx_mk; rfl)))
    rintro x hx
    have hYx := hYl x
    by_cases hxl : x < l.length
    · have hz : 0 + Int.toNat ((x : Int) + 1) = x + 1 := by omega
      have hp' : Y (x + 1) = Y x ++ [IntKind.i64.wrap (X.getD (0 + Int.toNat ((x : Int) + 1)) 0 - X.getD (0 + Int.toNat 0) 0)] := by
        rw [hYs, hV, hz]; rfl
      generalize Y x = U at *
      (repeat' (first
    | (intro Q h; refine h ?_; clear h Q)
    | (refine bcase_mk (fun hb => ?_) (fun hb => ?_) <;> (try simp only [nS, nT, eq_self, reduceCtorEq] at hb) <;> (try (exfalso; (omega); done)))
    | refine draw_mk (by decide +kernel) ?_
    | refine seq_go ?_
    | refine And.intro (by first | omega | ((try simp only [wS]); omega) | rfl | decide) ?_
    | (apply next_sub (Subtype.mk (x + 1) (by first | omega | (simp only; omega))); (focus (rw [hp']; apply le_mk [some 0, some 1, some 2, some _]; (focus (iterate 2 (all_goals (repeat' (first | exact trivial | (intro Q h; refine h ?_; clear h Q) | refine And.intro ?_ ?_ | exact sub_sl rfl rfl rfl | exact sub_refl_val _ _ | exact row_same rfl rfl rfl | ((first | refine sub_int ?_ | show (_ : Nat) = _); first | with_reducible rfl | omega | ((try simp only [wS]); omega) | rfl) | apply row_app1 | refine cells_succ ?_ ?_ | exact cell0 | with_reducible rfl ))))); (any_goals (apply okIx_mk; rfl)))); (all_goals (try (first | (simp only; omega)))))
    ))
    · have hxx : l.length = x := by omega
      subst hxx
      (repeat' (first
    | (intro Q h; refine h ?_; clear h Q)
    | (refine bcase_mk (fun hb => ?_) (fun hb => ?_) <;> (try simp only [nS, nT, eq_self, reduceCtorEq] at hb) <;> (try (exfalso; (omega); done)))
    | refine seq_go ?_
    | (apply ret_mk [some 0, some 1, some 3]; (focus (iterate 2 (all_goals (repeat' (first | exact subL_nil | exact trivial | (intro Q h; refine h ?_; clear h Q) | refine And.intro ?_ ?_ | refine subL_cons ?_ ?_ | refine sub_tup ?_ | exact sub_refl_val _ _ | exact row_same rfl rfl rfl | ((first | refine sub_sl rfl rfl ?_ ); first | with_reducible rfl | omega | ((try simp only [wS]); omega) | rfl) ))))); (any_goals (apply okIx_mk; rfl)))
    ))
  · unfold wiA wiB at htg
    simp only [cond_true] at htg
    refine Runs.mk tabOK Try.call21 Try.func21 rfl Try.ntmps21 Try.results21 rfl ?_
    (repeat' (first
    | (intro Q h; refine h ?_; clear h Q)
    | (with_reducible refine bcase_true ?_)
    | (refine bcase_mk (fun hb => ?_) (fun hb => ?_) <;> (try simp only [nS, nT, eq_self, reduceCtorEq] at hb) <;> (try (exfalso; (omega); done)))
    | refine seq_go ?_
    | ((first | apply call_detx [some 0, some 1] (hsy) ); (focus ((iterate 2 (all_goals (repeat' (first | exact subL_nil | exact trivial | (intro Q h; refine h ?_; clear h Q) | refine And.intro ?_ ?_ | refine subL_cons ?_ ?_ | refine sub_agg ?_ | exact sub_sl rfl rfl rfl | exact sub_refl_val _ _ | exact row_same rfl rfl rfl )))))); (any_goals (first | (apply nodup_mk; rfl) )))
    | ((first | apply call1 (htg) ); (focus (iterate 2 (all_goals (repeat' (first | exact subL_nil | exact trivial | (intro Q h; refine h ?_; clear h Q) | refine And.intro ?_ ?_ | refine subL_cons ?_ ?_ | exact sub_sl rfl rfl rfl | exact sub_refl_val _ _ | exact row_ren rfl rfl rfl | ((first | refine sub_int ?_ ); first | with_reducible rfl | omega | ((try simp only [wS]); omega) | rfl) ))))); (try (any_goals fail)))
    ))
    refine loop_inv (σ := Nat) (fun x => x ≤ l.length) (fun x => ⟨[(10, .val (.int .i64 ((l.length : Int) + 1))), (15, .sl 2 1 0 (l.length + 1) none), (16, .sl 3 1 0 x none), (17, .val (.int .i64 ((x : Int) + 1)))], [gL l, gT c, iB true X, iB true (Y x)]⟩) (fun x => l.length - x) (0) ?_ ?_ ?_
    · omega
    · rw [hY0]
      (apply le_mk [some 0, some 1, some 4, none]; (focus (iterate 2 (all_goals (repeat' (first | exact trivial | (intro Q h; refine h ?_; clear h Q) | refine And.intro ?_ ?_ | exact sub_sl rfl rfl rfl | exact sub_refl_val _ _ | exact row_same rfl rfl rfl | exact row_ren rfl rfl rfl | exact sub_nil rfl | ((first | refine virt_mk ?_ ); first | with_reducible rfl | omega | ((try simp only [wS]); omega) | rfl) ))))); (any_goals (apply okIx_mk; rfl)))
    rintro x hx
    have hYx := hYl x
    by_cases hxl : x < l.length
    · have hz : 0 + Int.toNat ((x : Int) + 1) = x + 1 := by omega
      have hp' : Y (x + 1) = Y x ++ [IntKind.i64.wrap (X.getD (0 + Int.toNat ((x : Int) + 1)) 0 - X.getD (0 + Int.toNat 0) 0)] := by
        rw [hYs, hV, hz]; rfl
      generalize Y x = U at *
      (repeat' (first
    | (intro Q h; refine h ?_; clear h Q)
    | (refine bcase_mk (fun hb => ?_) (fun hb => ?_) <;> (try simp only [nS, nT, eq_self, reduceCtorEq] at hb) <;> (try (exfalso; (omega); done)))
    | refine draw_mk (by decide +kernel) ?_
    | refine seq_go ?_
    | refine And.intro (by first | omega | ((try simp only [wS]); omega) | rfl | decide) ?_
    | (apply next_sub (Subtype.mk (x + 1) (by first | omega | (simp only; omega))); (focus (rw [hp']; apply le_mk [some 0, some 1, some 2, some _]; (focus (iterate 2 (all_goals (repeat' (first | exact trivial | (intro Q h; refine h ?_; clear h Q) | refine And.intro ?_ ?_ | exact sub_sl rfl rfl rfl | exact sub_refl_val _ _ | exact row_same rfl rfl rfl | ((first | refine sub_int ?_ | show (_ : Nat) = _); first | with_reducible rfl | omega | ((try simp only [wS]); omega) | rfl) | apply row_app1 | refine cells_succ ?_ ?_ | exact cell0 | with_reducible rfl ))))); (any_goals (apply okIx_mk; rfl)))); (all_goals (try (first | (simp only; omega)))))
    ))
    · have hxx : l.length = x := by omega
      subst hxx
      (repeat' (first
    | (intro Q h; refine h ?_; clear h Q)
    | (refine bcase_mk (fun hb => ?_) (fun hb => ?_) <;> (try simp only [nS, nT, eq_self, reduceCtorEq] at hb) <;> (try (exfalso; (omega); done)))
    | refine seq_go ?_
    | (apply ret_mk [some 0, some 1, some 3]; (focus (iterate 2 (all_goals (repeat' (first | exact subL_nil | exact trivial | (intro Q h; refine h ?_; clear h Q) | refine And.intro ?_ ?_ | refine subL_cons ?_ ?_ | refine sub_tup ?_ | exact sub_refl_val _ _ | exact row_same rfl rfl rfl | ((first | refine sub_sl rfl rfl ?_ ); first | with_reducible rfl | omega | ((try simp only [wS]); omega) | rfl) ))))); (any_goals (apply okIx_mk; rfl)))
    ))
end Go.Vx.L53

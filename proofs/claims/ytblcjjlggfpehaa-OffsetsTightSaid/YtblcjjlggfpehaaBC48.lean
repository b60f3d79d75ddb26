/- Lemmas of a small executor for the model, and contracts of functions, used for the law that this claim proves. No condition. -/
import Derived.Test.YtblcjjlggfpehaaBC47
import Derived.Test.YtblcjjlggfpehaaBC33
set_option linter.unusedSimpArgs false
set_option linter.unusedVariables false
set_option maxRecDepth 100000
namespace Go.Vx.L53
open Go Go.Proofs
set_option maxHeartbeats 4000000 in
theorem offsetsTight (l : List En) (cap : Option Nat) (hl : l.length ≤ maxLen) (c : Cf) (cap2 : Option Nat) (hc : c.tol.length ≤ maxLen) (t : List Int) (cap3 : Option Nat) (ht : t.length ≤ maxLen) :
    Runs Try.prog 9 [aL l cap, aC c 1 cap2, .sl 2 1 0 t.length cap3] [gL l, gT c, iB false t] (Det (.sb true) [gL l, gT c, iB false t]) := by
  have hmx : maxLen = 9223372036854775807 := by decide
  have hsh := short_ok l cap c cap2 hl hc
  by_cases h : l.length ≤ 200 ∧ c.tol.length ≤ 100
  rotate_left
  · rw [decide_eq_false h] at hsh
    refine Runs.mk tabOK Try.call9 Try.func9 rfl Try.ntmps9 Try.results9 rfl ?_
    (repeat' (first
    | (intro Q h; refine h ?_; clear h Q)
    | (refine bcase_mk (fun hb => ?_) (fun hb => ?_) <;> (try simp only [nS, nT, eq_self, reduceCtorEq] at hb) <;> (try (exfalso; fail; done)))
    | refine seq_go ?_
    | ((first | apply call_detx [some 0, some 1] (hsh) ); (focus ((iterate 2 (all_goals (repeat' (first | exact subL_nil | exact trivial | (intro Q h; refine h ?_; clear h Q) | refine And.intro ?_ ?_ | refine subL_cons ?_ ?_ | refine sub_agg ?_ | exact sub_sl rfl rfl rfl | exact sub_refl_val _ _ | exact row_same rfl rfl rfl )))))); (any_goals (first | (apply nodup_mk; rfl) )))
    | ((first | apply call0 (awake_ok) ); (focus (iterate 2 (all_goals (repeat' (first | exact subL_nil ))))))
    | (apply ret_mk [some 0, some 1, some 2]; (focus (iterate 2 (all_goals (repeat' (first | exact trivial | (intro Q h; refine h ?_; clear h Q) | refine And.intro ?_ ?_ | exact sub_sb rfl | exact row_same rfl rfl rfl ))))); (any_goals (apply okIx_mk; rfl)))
    ))
  rw [decide_eq_true h] at hsh
  by_cases ht3 : t.length ≤ 300
  rotate_left
  · refine Runs.mk tabOK Try.call9 Try.func9 rfl Try.ntmps9 Try.results9 rfl ?_
    (repeat' (first
    | (intro Q h; refine h ?_; clear h Q)
    | (refine bcase_mk (fun hb => ?_) (fun hb => ?_) <;> (try simp only [nS, nT, eq_self, reduceCtorEq] at hb) <;> (try (exfalso; (first | omega ); done)))
    | refine seq_go ?_
    | ((first | apply call_detx [some 0, some 1] (hsh) ); (focus ((iterate 2 (all_goals (repeat' (first | exact subL_nil | exact trivial | (intro Q h; refine h ?_; clear h Q) | refine And.intro ?_ ?_ | refine subL_cons ?_ ?_ | refine sub_agg ?_ | exact sub_sl rfl rfl rfl | exact sub_refl_val _ _ | exact row_same rfl rfl rfl )))))); (any_goals (first | (apply nodup_mk; rfl) )))
    | ((first | apply call0 (awake_ok) ); (focus (iterate 2 (all_goals (repeat' (first | exact subL_nil ))))))
    | (apply ret_mk [some 0, some 1, some 2]; (focus (iterate 2 (all_goals (repeat' (first | exact trivial | (intro Q h; refine h ?_; clear h Q) | refine And.intro ?_ ?_ | exact sub_sb rfl | exact row_same rfl rfl rfl ))))); (any_goals (apply okIx_mk; rfl)))
    ))
  have hof := offsets_ok l cap c cap2 hl hc
  have hbl := blame_ok l cap c cap2 hl hc
  rw [blO_20] at hbl
  have hcn := consistent_ok l cap c cap2 t cap3 hl hc ht
  by_cases h0 : ofE l c = 0
  rotate_left
  · have hcf : conB l c t = false := by
      cases hq : conB l c t with
      | false => rfl
      | true => exact absurd (conB_of0 hq) h0
    rw [hcf] at hcn
    generalize ofA l c = V at *
    generalize blA l c = A at *
    by_cases h20 : ofE l c = 20
    · rw [h20] at hof
      rw [decide_eq_true h20] at hbl
      refine Runs.mk tabOK Try.call9 Try.func9 rfl Try.ntmps9 Try.results9 rfl ?_
      (repeat' (first
    | (intro Q h; refine h ?_; clear h Q)
    | (refine bcase_mk (fun hb => ?_) (fun hb => ?_) <;> (try simp only [nS, nT, eq_self, reduceCtorEq] at hb) <;> (try (exfalso; (first | omega ); done)))
    | refine seq_go ?_
    | ((first | apply call_detx [some 0, some 1] (hsh) ); (focus ((iterate 2 (all_goals (repeat' (first | exact subL_nil | exact trivial | (intro Q h; refine h ?_; clear h Q) | refine And.intro ?_ ?_ | refine subL_cons ?_ ?_ | refine sub_agg ?_ | exact sub_sl rfl rfl rfl | exact sub_refl_val _ _ | exact row_same rfl rfl rfl )))))); (any_goals (first | (apply nodup_mk; rfl) )))
    | ((first | apply call_detx [some 0, some 1] (hof) ); (focus ((iterate 2 (all_goals (repeat' (first | exact subL_nil | exact trivial | (intro Q h; refine h ?_; clear h Q) | refine And.intro ?_ ?_ | refine subL_cons ?_ ?_ | refine sub_agg ?_ | exact sub_sl rfl rfl rfl | exact sub_refl_val _ _ | exact row_same rfl rfl rfl )))))); (any_goals (first | (apply nodup_mk; rfl) )))
    | ((first | apply call_detx [some 0, some 1] (hbl) ); (focus ((iterate 2 (all_goals (repeat' (first | exact subL_nil | exact trivial | (intro Q h; refine h ?_; clear h Q) | refine And.intro ?_ ?_ | refine subL_cons ?_ ?_ | refine sub_agg ?_ | exact sub_sl rfl rfl rfl | exact sub_refl_val _ _ | exact row_same rfl rfl rfl )))))); (any_goals (first | (apply nodup_mk; rfl) )))
    | ((first | apply call_detx [some 0, some 1, some 2] (hcn) ); (focus ((iterate 2 (all_goals (repeat' (first | exact subL_nil | exact trivial | (intro Q h; refine h ?_; clear h Q) | refine And.intro ?_ ?_ | refine subL_cons ?_ ?_ | refine sub_agg ?_ | exact sub_sl rfl rfl rfl | exact sub_refl_val _ _ | exact row_same rfl rfl rfl )))))); (any_goals (first | (apply nodup_mk; rfl) )))
    | ((first | apply call0 (awake_ok) ); (focus (iterate 2 (all_goals (repeat' (first | exact subL_nil ))))))
    | (apply ret_mk [some 0, some 1, some 2]; (focus (iterate 2 (all_goals (repeat' (first | exact trivial | (intro Q h; refine h ?_; clear h Q) | refine And.intro ?_ ?_ | exact sub_sb rfl | exact row_same rfl rfl rfl ))))); (any_goals (apply okIx_mk; rfl)))
    ))
    · rw [decide_eq_false h20] at hbl
      have hE : (ofE l c == 20) = false := beq_false_of_ne h20
      generalize ofE l c = e at *
      refine Runs.mk tabOK Try.call9 Try.func9 rfl Try.ntmps9 Try.results9 rfl ?_
      (repeat' (first
    | (intro Q h; refine h ?_; clear h Q)
    | (refine bcase_mk (fun hb => ?_) (fun hb => ?_) <;> (try simp only [nS, nT, eq_self, reduceCtorEq] at hb) <;> (try (exfalso; (first | omega | exact hb hE.symm); done)))
    | refine seq_go ?_
    | ((first | apply call_detx [some 0, some 1] (hsh) ); (focus ((iterate 2 (all_goals (repeat' (first | exact subL_nil | exact trivial | (intro Q h; refine h ?_; clear h Q) | refine And.intro ?_ ?_ | refine subL_cons ?_ ?_ | refine sub_agg ?_ | exact sub_sl rfl rfl rfl | exact sub_refl_val _ _ | exact row_same rfl rfl rfl )))))); (any_goals (first | (apply nodup_mk; rfl) )))
    | ((first | apply call_detx [some 0, some 1] (hof) ); (focus ((iterate 2 (all_goals (repeat' (first | exact subL_nil | exact trivial | (intro Q h; refine h ?_; clear h Q) | refine And.intro ?_ ?_ | refine subL_cons ?_ ?_ | refine sub_agg ?_ | exact sub_sl rfl rfl rfl | exact sub_refl_val _ _ | exact row_same rfl rfl rfl )))))); (any_goals (first | (apply nodup_mk; rfl) )))
    | ((first | apply call_detx [some 0, some 1] (hbl) ); (focus ((iterate 2 (all_goals (repeat' (first | exact subL_nil | exact trivial | (intro Q h; refine h ?_; clear h Q) | refine And.intro ?_ ?_ | refine subL_cons ?_ ?_ | refine sub_agg ?_ | exact sub_sl rfl rfl rfl | exact sub_refl_val _ _ | exact row_same rfl rfl rfl )))))); (any_goals (first | (apply nodup_mk; rfl) )))
    | ((first | apply call_detx [some 0, some 1, some 2] (hcn) ); (focus ((iterate 2 (all_goals (repeat' (first | exact subL_nil | exact trivial | (intro Q h; refine h ?_; clear h Q) | refine And.intro ?_ ?_ | refine subL_cons ?_ ?_ | refine sub_agg ?_ | exact sub_sl rfl rfl rfl | exact sub_refl_val _ _ | exact row_same rfl rfl rfl )))))); (any_goals (first | (apply nodup_mk; rfl) )))
    | ((first | apply call0 (awake_ok) ); (focus (iterate 2 (all_goals (repeat' (first | exact subL_nil ))))))
    | (apply ret_mk [some 0, some 1, some 2]; (focus (iterate 2 (all_goals (repeat' (first | exact trivial | (intro Q h; refine h ?_; clear h Q) | refine And.intro ?_ ?_ | exact sub_sb rfl | exact row_same rfl rfl rfl ))))); (any_goals (apply okIx_mk; rfl)))
    ))
  rw [decide_eq_false (show ¬ ofE l c = 20 by omega)] at hbl
  have hat := fun i hi => attained_ok l cap c cap2 hl hc h0 i hi
  have hin : conB l c t = true → ∀ i, i < l.length → (((ofA l c).getD i iv0).lo ≤ (l.getD i en0).c - t.getD i 0 ∧ (l.getD i en0).c - t.getD i 0 ≤ ((ofA l c).getD i iv0).hi) ∧ t.length = l.length ∧ r4 (t.getD i 0) := fun h i hi => ⟨con_in h hi, (conB_pot h).2.1, (conB_pot h).2.2.1 _ (getD_mem t i 0 (by have := (conB_pot h).2.1; omega))⟩
  have hcc := fun i hi => (lchk_rg (sys_zero (of_sys h0).1).1 (i := i) hi).2.2.2.1
  have hVl : (ofA l c).length = l.length := by rw [(of_sys h0).2.2.2]; simp [ivL]
  rw [h0] at hof
  generalize blA l c = BA at *
  generalize ofA l c = V at *
  rw [hVl] at hof
  refine Runs.mk tabOK Try.call9 Try.func9 rfl Try.ntmps9 Try.results9 rfl ?_
  (repeat' (first
    | (intro Q h; refine h ?_; clear h Q)
    | (refine bcase_mk (fun hb => ?_) (fun hb => ?_) <;> (try simp only [nS, nT, eq_self, reduceCtorEq] at hb) <;> (try (exfalso; (first | omega | exact hb rfl ); done)))
    | refine seq_go ?_
    | ((first | apply call_detx [some 0, some 1] (hsh) ); (focus ((iterate 2 (all_goals (repeat' (first | exact subL_nil | exact trivial | (intro Q h; refine h ?_; clear h Q) | refine And.intro ?_ ?_ | refine subL_cons ?_ ?_ | refine sub_agg ?_ | exact sub_sl rfl rfl rfl | exact sub_refl_val _ _ | exact row_same rfl rfl rfl )))))); (any_goals (first | (apply nodup_mk; rfl) )))
    | ((first | apply call_detx [some 0, some 1] (hof) ); (focus ((iterate 2 (all_goals (repeat' (first | exact subL_nil | exact trivial | (intro Q h; refine h ?_; clear h Q) | refine And.intro ?_ ?_ | refine subL_cons ?_ ?_ | refine sub_agg ?_ | exact sub_sl rfl rfl rfl | exact sub_refl_val _ _ | exact row_same rfl rfl rfl )))))); (any_goals (first | (apply nodup_mk; rfl) )))
    | ((first | apply call_detx [some 0, some 1] (hbl) ); (focus ((iterate 2 (all_goals (repeat' (first | exact subL_nil | exact trivial | (intro Q h; refine h ?_; clear h Q) | refine And.intro ?_ ?_ | refine subL_cons ?_ ?_ | refine sub_agg ?_ | exact sub_sl rfl rfl rfl | exact sub_refl_val _ _ | exact row_same rfl rfl rfl )))))); (any_goals (first | (apply nodup_mk; rfl) )))
    ))
  refine loop_inv (σ := Nat) (fun x => x ≤ l.length) (fun x => ⟨[(0, aL l cap), (2, .sl 2 1 0 t.length cap3), (4, .ptr 3 5 0 0), (7, .sl 4 2 0 l.length none), (56, .val (.int .i64 l.length)), (57, .val (.int .i64 x))], [gL l, gT c, iB false t, vC c 1 cap2, vB true V]⟩) (fun x => l.length - x) (0) ?_ ?_ ?_
  · omega
  · (apply le_mk [some 0, some 1, some 2, some 3, some 4]; (focus (iterate 2 (all_goals (repeat' (first | exact subL_nil | exact trivial | (intro Q h; refine h ?_; clear h Q) | refine And.intro ?_ ?_ | refine subL_cons ?_ ?_ | refine var_mk ?_ | exact sub_ptr rfl rfl | exact sub_sl rfl rfl rfl | exact sub_refl_val _ _ | exact row_same rfl rfl rfl | exact row_ren rfl rfl rfl ))))); (any_goals (apply okIx_mk; rfl)))
  rintro x hx
  by_cases hxl : x < l.length
  · have hat' := hat x hxl
    have hz : 0 + Int.toNat (x : Int) = x := by omega
    rw [show V.getD x iv0 = V.getD (0 + Int.toNat (x : Int)) iv0 by rw [hz]] at hat'
    (repeat' (first
    | (intro Q h; refine h ?_; clear h Q)
    | (with_reducible refine bcase_true ?_)
    | (refine bcase_mk (fun hb => ?_) (fun hb => ?_) <;> (try simp only [nS, nT, eq_self, reduceCtorEq] at hb) <;> (try (exfalso; (first | omega ); done)))
    | refine draw_mk (by decide +kernel) ?_
    | refine seq_go ?_
    | refine And.intro (by first | omega | ((try simp only [wS]); omega) | rfl | decide) ?_
    | ((first | apply calld_detx [some 0, some 1] (hat')); (focus ((iterate 2 (all_goals (repeat' (first | exact subL_nil | exact trivial | (intro Q h; refine h ?_; clear h Q) | refine And.intro ?_ ?_ | refine subL_cons ?_ ?_ | refine sub_agg ?_ | exact sub_sl rfl rfl rfl | exact sub_refl_val _ _ | exact row_same rfl rfl rfl )))))); (any_goals (first | (apply nodup_mk2; rfl) )))
    | (apply next_sub (Subtype.mk (x + 1) _); (focus (apply le_mk [some 0, some 1, some 2, some 3, some 4]; (focus (iterate 2 (all_goals (repeat' (first | exact subL_nil | exact trivial | (intro Q h; refine h ?_; clear h Q) | refine And.intro ?_ ?_ | refine subL_cons ?_ ?_ | refine var_mk ?_ | exact sub_ptr rfl rfl | exact sub_sl rfl rfl rfl | exact sub_refl_val _ _ | exact row_same rfl rfl rfl | ((first | refine sub_int ?_ ); first | with_reducible rfl | omega | ((try simp only [wS]); omega) | rfl) ))))); (any_goals (apply okIx_mk; rfl)))); (all_goals (try (first | omega | (simp only; omega)))))
    ))
  have hxx : l.length = x := by omega
  cases hq : conB l c t
  · rw [hq] at hcn
    (repeat' (first
    | (intro Q h; refine h ?_; clear h Q)
    | (with_reducible refine bcase_false ?_)
    | (refine bcase_mk (fun hb => ?_) (fun hb => ?_) <;> (try simp only [nS, nT, eq_self, reduceCtorEq] at hb) <;> (try (exfalso; (first | omega ); done)))
    | refine seq_go ?_
    | ((first | apply call_detx [some 0, some 1, some 2] (hcn) ); (focus ((iterate 2 (all_goals (repeat' (first | exact subL_nil | exact trivial | (intro Q h; refine h ?_; clear h Q) | refine And.intro ?_ ?_ | refine subL_cons ?_ ?_ | refine sub_agg ?_ | exact sub_sl rfl rfl rfl | exact sub_refl_val _ _ | exact row_same rfl rfl rfl )))))); (any_goals (first | (apply nodup_mk; rfl) )))
    | ((first | apply call0 (awake_ok) ); (focus (iterate 2 (all_goals (repeat' (first | exact subL_nil ))))))
    | (apply ret_mk [some 0, some 1, some 2]; (focus (iterate 2 (all_goals (repeat' (first | exact trivial | (intro Q h; refine h ?_; clear h Q) | refine And.intro ?_ ?_ | exact sub_sb rfl | exact row_same rfl rfl rfl ))))); (any_goals (apply okIx_mk; rfl)))
    ))
  rw [hq] at hcn
  replace hin := hin hq
  (repeat' (first
    | (intro Q h; refine h ?_; clear h Q)
    | (with_reducible refine bcase_true ?_)
    | (refine bcase_mk (fun hb => ?_) (fun hb => ?_) <;> (try simp only [nS, nT, eq_self, reduceCtorEq] at hb) <;> (try (exfalso; (first | omega ); done)))
    | refine seq_go ?_
    | ((first | apply call_detx [some 0, some 1, some 2] (hcn) ); (focus ((iterate 2 (all_goals (repeat' (first | exact subL_nil | exact trivial | (intro Q h; refine h ?_; clear h Q) | refine And.intro ?_ ?_ | refine subL_cons ?_ ?_ | refine sub_agg ?_ | exact sub_sl rfl rfl rfl | exact sub_refl_val _ _ | exact row_same rfl rfl rfl )))))); (any_goals (first | (apply nodup_mk; rfl) )))
    ))
  refine loop_inv (σ := Nat) (fun x => x ≤ l.length) (fun x => ⟨[(0, aL l cap), (2, .sl 2 1 0 t.length cap3), (7, .sl 3 2 0 l.length none), (75, .val (.int .i64 l.length)), (76, .val (.int .i64 x))], [gL l, gT c, iB false t, vB true V]⟩) (fun x => l.length - x) (0) ?_ ?_ ?_
  · omega
  · (apply le_mk [some 0, some 1, some 2, some 4]; (focus (iterate 2 (all_goals (repeat' (first | exact trivial | (intro Q h; refine h ?_; clear h Q) | refine And.intro ?_ ?_ | exact sub_sl rfl rfl rfl | exact sub_refl_val _ _ | exact row_same rfl rfl rfl ))))); (any_goals (apply okIx_mk; rfl)))
  rintro y hy
  by_cases hyl : y < l.length
  · have hz : 0 + Int.toNat (y : Int) = y := by omega
    obtain ⟨⟨k1, k2⟩, k3, k4⟩ := hin y hyl
    have k5 := hcc y hyl
    rw [← hz] at k1 k2 k4 k5
    have hw : IntKind.i64.wrap ((l.getD (0 + Int.toNat (y : Int)) en0).c - t.getD (0 + Int.toNat (y : Int)) 0) = (l.getD (0 + Int.toNat (y : Int)) en0).c - t.getD (0 + Int.toNat (y : Int)) 0 := cwrap (by omega) (by omega)
    (repeat' (first
    | (intro Q h; refine h ?_; clear h Q)
    | (refine bcase_mk (fun hb => ?_) (fun hb => ?_) <;> (try simp only [nS, nT, eq_self, reduceCtorEq] at hb) <;> (try (exfalso; (first | omega ); done)))
    | refine draw_mk (by decide +kernel) ?_
    | refine seq_go ?_
    | refine And.intro (by first | omega | ((try simp only [wS]); omega) | rfl | decide) ?_
    | (apply next_sub (Subtype.mk (y + 1) _); (focus (apply le_mk [some 0, some 1, some 2, some 3]; (focus (iterate 2 (all_goals (repeat' (first | exact trivial | (intro Q h; refine h ?_; clear h Q) | refine And.intro ?_ ?_ | exact sub_sl rfl rfl rfl | exact sub_refl_val _ _ | exact row_same rfl rfl rfl | ((first | refine sub_int ?_ ); first | with_reducible rfl | omega | ((try simp only [wS]); omega) | rfl) ))))); (any_goals (apply okIx_mk; rfl)))); (all_goals (try (first | omega | (simp only; omega)))))
    ))
  (repeat' (first
    | (intro Q h; refine h ?_; clear h Q)
    | (refine bcase_mk (fun hb => ?_) (fun hb => ?_) <;> (try simp only [nS, nT, eq_self, reduceCtorEq] at hb) <;> (try (exfalso; (first | omega ); done)))
    | ((first | apply call0 (awake_ok) ); (focus (iterate 2 (all_goals (repeat' (first | exact subL_nil ))))))
    | (apply ret_mk [some 0, some 1, some 2]; (focus (iterate 2 (all_goals (repeat' (first | exact trivial | (intro Q h; refine h ?_; clear h Q) | refine And.intro ?_ ?_ | exact sub_sb rfl | exact row_same rfl rfl rfl ))))); (any_goals (apply okIx_mk; rfl)))
    ))
end Go.Vx.L53

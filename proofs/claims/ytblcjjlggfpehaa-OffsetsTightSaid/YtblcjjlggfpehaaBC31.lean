/- Lemmas of a small executor for the model, and contracts of functions, used for the law that this claim proves. No condition. -/
import Derived.Test.YtblcjjlggfpehaaBC27
import Derived.Test.YtblcjjlggfpehaaBD2
set_option linter.unusedSimpArgs false
set_option linter.unusedVariables false
set_option maxRecDepth 100000
namespace Go.Vx.L53
open Go Go.Proofs
theorem tm_snoc {t : List Int} {x : Nat} (hx : x < t.length) (h : tmOK (t.take x)) (h1 : r4 (t.getD x 0)) : tmOK (t.take (x + 1)) := fun y hy => by
  rw [take_snoc t x 0 hx, List.mem_append, List.mem_singleton] at hy
  rcases hy with hy | rfl
  · exact h y hy
  · exact h1
set_option maxHeartbeats 2000000 in
theorem consistent_ok (l : List En) (cap : Option Nat) (c : Cf) (cap2 : Option Nat) (t : List Int) (cap3 : Option Nat) (hl : l.length ≤ maxLen) (hc : c.tol.length ≤ maxLen) (ht : t.length ≤ maxLen) :
    Runs Try.prog 16 [aL l cap, aC c 1 cap2, .sl 2 1 0 t.length cap3] [gL l, gT c, iB false t] (Det (.sb (conB l c t)) [gL l, gT c, iB false t]) := by
  have hmx : maxLen = 9223372036854775807 := by decide
  have hsy := system_ok l cap c cap2 hl hc
  by_cases h0 : sysE l c = 0 ∧ t.length = l.length
  rotate_left
  · have hB : conB l c t = false := by
      unfold conB; rw [decide_eq_false (fun h => h0 ⟨h.1, h.2.1⟩), Bool.false_and]
    rw [hB]
    generalize sysE l c = E at *
    generalize sysN l c = N at *
    generalize sysA l c = A at *
    refine Runs.mk tabOK Try.call16 Try.func16 rfl Try.ntmps16 Try.results16 rfl ?_
    (repeat' (first
    | (intro Q h; refine h ?_; clear h Q)
    | (refine bcase_mk (fun hb => ?_) (fun hb => ?_) <;> (try simp only [nS, nT, eq_self, reduceCtorEq] at hb) <;> (try (exfalso; (omega); done)))
    | refine seq_go ?_
    | ((first | apply call_detx [some 0, some 1] (hsy) ); (focus ((iterate 2 (all_goals (repeat' (first | exact row_same rfl rfl rfl | exact subL_nil | exact trivial | (intro Q h; refine h ?_; clear h Q) | refine And.intro ?_ ?_ | refine subL_cons ?_ ?_ | refine sub_agg ?_ | exact sub_sl rfl rfl rfl | exact sub_refl_val _ _ )))))); (any_goals (first | (apply nodup_mk; rfl) )))
    | (apply ret_mk [some 0, some 1, some 2]; (focus (iterate 2 (all_goals (repeat' (first | exact row_same rfl rfl rfl | exact trivial | (intro Q h; refine h ?_; clear h Q) | refine And.intro ?_ ?_ | exact sub_sbl rfl ))))); (any_goals (apply okIx_mk; rfl)))
    ))
  obtain ⟨h0, h1⟩ := h0
  have hlen := (sys_zero h0).2.1
  have hAl := sysA_len l c
  have hAw := sysA_ok h0
  have hB : tmOK t → conB l c t = hldB (sysA l c) (0 :: t) := fun h => by
    unfold conB; rw [decide_eq_true ⟨h0, h1, h⟩, Bool.true_and]
  have hBn : ¬ tmOK t → conB l c t = false := fun h => by
    unfold conB; rw [decide_eq_false (fun h2 => h h2.2.2), Bool.false_and]
  have hho := fun (h : tmOK t) => holds_ok (sysA l c) none (0 :: t) none (by omega) (by simp only [List.length_cons]; omega) (r4_cons h) fun d hd => (hAw d hd).2.2
  rw [h0] at hsy
  generalize sysN l c = N at *
  generalize sysA l c = A at *
  refine Runs.mk tabOK Try.call16 Try.func16 rfl Try.ntmps16 Try.results16 rfl ?_
  (repeat' (first
    | (intro Q h; refine h ?_; clear h Q)
    | (refine bcase_mk (fun hb => ?_) (fun hb => ?_) <;> (try simp only [nS, nT, eq_self, reduceCtorEq] at hb) <;> (try (exfalso; (omega); done)))
    | refine seq_go ?_
    | refine And.intro (by first | omega | ((try simp only [wS]); omega) | rfl | decide) ?_
    | ((first | apply call_detx [some 0, some 1] (hsy) ); (focus ((iterate 2 (all_goals (repeat' (first | exact row_same rfl rfl rfl | exact subL_nil | exact trivial | (intro Q h; refine h ?_; clear h Q) | refine And.intro ?_ ?_ | refine subL_cons ?_ ?_ | refine sub_agg ?_ | exact sub_sl rfl rfl rfl | exact sub_refl_val _ _ )))))); (any_goals (first | (apply nodup_mk; rfl) )))
    ))
  refine loop_inv (σ := Nat) (fun x => x ≤ t.length ∧ tmOK (t.take x)) (fun x => ⟨[(8, .sl 3 3 0 A.length none), (10, .sl 4 1 0 (x + 1) none), (33, .sl 2 1 0 t.length cap3), (34, .val (.int .i64 t.length)), (35, .val (.int .i64 x))], [gL l, gT c, iB false t, cB true A, iB true (0 :: t.take x)]⟩) (fun x => t.length - x) (0) ?_ ?_ ?_
  · exact ⟨by omega, fun x hx => by simp at hx⟩
  · (apply le_mk [some 0, some 1, some 2, some 4, some 5]; (focus (iterate 2 (all_goals (repeat' (first | exact row_same rfl rfl rfl | (apply row_lit rfl; (focus (refine cells_succ (cells_succ ?_ ?_) ?_))) | exact trivial | (intro Q h; refine h ?_; clear h Q) | refine And.intro ?_ ?_ | exact sub_sl rfl rfl rfl | exact sub_refl_val _ _ | exact row_ren rfl rfl rfl | exact cell0 ))))); (any_goals (apply okIx_mk; rfl)))
  rintro x ⟨hx, hok⟩
  by_cases hxl : x < t.length
  · have hz : 0 + Int.toNat x = x := by omega
    have hsn := tm_snoc hxl hok
    have hbad : ¬ r4 (t.getD x 0) → ¬ tmOK t := fun h h2 => h (h2 _ (getD_mem t x 0 hxl))
    have htk : (0 :: t.take (x + 1)) = (0 :: t.take x) ++ [t.getD (0 + Int.toNat x) 0] := by rw [hz, take_snoc t x 0 hxl]; rfl
    have htl : (t.take x).length = x := by rw [List.length_take]; omega
    rw [← hz] at hsn hbad
    rw [show t.take (0 + Int.toNat x + 1) = t.take (x + 1) by rw [hz]] at hsn
    by_cases hr : r4 (t.getD (0 + Int.toNat x) 0)
    · have hsn := hsn hr
      (repeat' (first
    | (intro Q h; refine h ?_; clear h Q)
    | (refine bcase_mk (fun hb => ?_) (fun hb => ?_) <;> (try simp only [nS, nT, eq_self, reduceCtorEq] at hb) <;> (try (exfalso; (omega); done)))
    | refine seq_go ?_
    | refine And.intro (by first | omega | ((try simp only [wS]); omega) | rfl | decide) ?_
    | (apply next_sub (Subtype.mk (x + 1) ⟨by omega, hsn⟩); (focus (rw [htk]; apply le_mk [some 0, some 1, some 2, some 3, some 6]; (focus (iterate 2 (all_goals (repeat' (first | exact row_same rfl rfl rfl | exact trivial | (intro Q h; refine h ?_; clear h Q) | refine And.intro ?_ ?_ | exact sub_sl rfl rfl rfl | exact sub_refl_val _ _ | ((first | refine sub_int ?_ | show (_ : Nat) = _); first | with_reducible rfl | omega | ((try simp only [wS]); omega) | rfl) | apply row_app1 | refine cells_succ ?_ ?_ | exact cell0 | with_reducible rfl ))))); (any_goals (apply okIx_mk; rfl)))); (all_goals (try (first | (simp only; omega)))))
    ))
    · rw [hBn (hbad hr)]
      (repeat' (first
    | (intro Q h; refine h ?_; clear h Q)
    | (refine bcase_mk (fun hb => ?_) (fun hb => ?_) <;> (try simp only [nS, nT, eq_self, reduceCtorEq] at hb) <;> (try (exfalso; (omega); done)))
    | refine seq_go ?_
    | refine And.intro (by first | omega | ((try simp only [wS]); omega) | rfl | decide) ?_
    | (apply ret_mk [some 0, some 1, some 2]; (focus (iterate 2 (all_goals (repeat' (first | exact row_same rfl rfl rfl | exact trivial | (intro Q h; refine h ?_; clear h Q) | refine And.intro ?_ ?_ | exact sub_sbl rfl ))))); (any_goals (apply okIx_mk; rfl)))
    ))
  · have hxx : x = t.length := by omega
    subst hxx
    rw [List.take_length] at *
    have hho := hho hok
    rw [hB hok]
    (repeat' (first
    | (intro Q h; refine h ?_; clear h Q)
    | (refine bcase_mk (fun hb => ?_) (fun hb => ?_) <;> (try simp only [nS, nT, eq_self, reduceCtorEq] at hb) <;> (try (exfalso; (omega); done)))
    | ((first | apply call_detx [some 3, some 4] (hho) ); (focus ((iterate 2 (all_goals (repeat' (first | exact row_same rfl rfl rfl | exact subL_nil | exact trivial | (intro Q h; refine h ?_; clear h Q) | refine And.intro ?_ ?_ | refine subL_cons ?_ ?_ | exact sub_sl rfl rfl rfl )))))); (any_goals (first | (apply nodup_mk; rfl) )))
    | (apply ret_mk [some 0, some 1, some 2]; (focus (iterate 2 (all_goals (repeat' (first | exact row_same rfl rfl rfl | exact trivial | (intro Q h; refine h ?_; clear h Q) | refine And.intro ?_ ?_ | exact sub_sb rfl ))))); (any_goals (apply okIx_mk; rfl)))
    ))
/-- The room of a slice that began as one element. -/
def capW : Nat → Option Nat
  | 0 => some 1
  | _ + 1 => none
set_option maxHeartbeats 2000000 in
theorem rconsistent_ok (l : List En) (cap : Option Nat) (c : Cf) (cap2 : Option Nat) (t : List Int) (cap3 : Option Nat) (hl : l.length ≤ maxLen) (hc : c.tol.length ≤ maxLen) (ht : t.length ≤ maxLen) :
    Runs Try.prog 17 [aL l cap, aC c 1 cap2, .sl 2 1 0 t.length cap3] [gL l, gT c, iB false t] (Det (.sb (conB l c t)) [gL l, gT c, iB false t]) := by
  have hmx : maxLen = 9223372036854775807 := by decide
  have hsy := rsystem_ok l cap c cap2 hl hc
  by_cases h0 : sysE l c = 0 ∧ t.length = l.length
  rotate_left
  · have hB : conB l c t = false := by
      unfold conB; rw [decide_eq_false (fun h => h0 ⟨h.1, h.2.1⟩), Bool.false_and]
    rw [hB]
    generalize sysE l c = E at *
    generalize sysN l c = N at *
    generalize sysA l c = A at *
    refine Runs.mk tabOK Try.call17 Try.func17 rfl Try.ntmps17 Try.results17 rfl ?_
    (repeat' (first
    | (intro Q h; refine h ?_; clear h Q)
    | (refine bcase_mk (fun hb => ?_) (fun hb => ?_) <;> (try simp only [nS, nT, eq_self, reduceCtorEq] at hb) <;> (try (exfalso; (omega); done)))
    | refine seq_go ?_
    | ((first | apply call_detx [some 0, some 1] (hsy) ); (focus ((iterate 2 (all_goals (repeat' (first | exact row_same rfl rfl rfl | exact subL_nil | exact trivial | (intro Q h; refine h ?_; clear h Q) | refine And.intro ?_ ?_ | refine subL_cons ?_ ?_ | refine sub_agg ?_ | exact sub_sl rfl rfl rfl | exact sub_refl_val _ _ )))))); (any_goals (first | (apply nodup_mk; rfl) )))
    | (apply ret_mk [some 0, some 1, some 2]; (focus (iterate 2 (all_goals (repeat' (first | exact row_same rfl rfl rfl | exact trivial | (intro Q h; refine h ?_; clear h Q) | refine And.intro ?_ ?_ | exact sub_sbl rfl ))))); (any_goals (apply okIx_mk; rfl)))
    ))
  obtain ⟨h0, h1⟩ := h0
  have hlen := (sys_zero h0).2.1
  have hAl := sysA_len l c
  have hAw := sysA_ok h0
  have hB : tmOK t → conB l c t = hldB (sysA l c) (0 :: t) := fun h => by
    unfold conB; rw [decide_eq_true ⟨h0, h1, h⟩, Bool.true_and]
  have hBn : ¬ tmOK t → conB l c t = false := fun h => by
    unfold conB; rw [decide_eq_false (fun h2 => h h2.2.2), Bool.false_and]
  have hho := fun (h : tmOK t) => rholds_ok (sysA l c) none (0 :: t) (capW t.length) (by omega) (by simp only [List.length_cons]; omega) (r4_cons h) fun d hd => (hAw d hd).2.2
  rw [h0] at hsy
  generalize sysN l c = N at *
  generalize sysA l c = A at *
  refine Runs.mk tabOK Try.call17 Try.func17 rfl Try.ntmps17 Try.results17 rfl ?_
  (repeat' (first
    | (intro Q h; refine h ?_; clear h Q)
    | (refine bcase_mk (fun hb => ?_) (fun hb => ?_) <;> (try simp only [nS, nT, eq_self, reduceCtorEq] at hb) <;> (try (exfalso; (omega); done)))
    | refine seq_go ?_
    | ((first | apply call_detx [some 0, some 1] (hsy) ); (focus ((iterate 2 (all_goals (repeat' (first | exact row_same rfl rfl rfl | exact subL_nil | exact trivial | (intro Q h; refine h ?_; clear h Q) | refine And.intro ?_ ?_ | refine subL_cons ?_ ?_ | refine sub_agg ?_ | exact sub_sl rfl rfl rfl | exact sub_refl_val _ _ )))))); (any_goals (first | (apply nodup_mk; rfl) )))
    ))
  refine loop_inv (σ := Nat) (fun x => x ≤ t.length ∧ tmOK (t.take x)) (fun x => ⟨[(8, .sl 3 3 0 A.length none), (2, .sl 2 1 0 t.length cap3), (10, .sl 4 1 0 (x + 1) (capW x)), (11, .val (.int .i64 x))], [gL l, gT c, iB false t, cB true A, iB true (0 :: t.take x)]⟩) (fun x => t.length - x) (0) ?_ ?_ ?_
  · exact ⟨by omega, fun x hx => by simp at hx⟩
  · (apply le_mk [some 0, some 1, some 2, some 4, some 5]; (focus (iterate 2 (all_goals (repeat' (first | exact row_same rfl rfl rfl | (apply row_lit rfl; (focus (refine cells_succ (cells_succ ?_ ?_) ?_))) | exact trivial | (intro Q h; refine h ?_; clear h Q) | refine And.intro ?_ ?_ | exact sub_sl rfl rfl rfl | exact sub_refl_val _ _ | exact row_ren rfl rfl rfl | exact cell0 ))))); (any_goals (apply okIx_mk; rfl)))
  rintro x ⟨hx, hok⟩
  by_cases hxl : x < t.length
  · have hz : 0 + Int.toNat x = x := by omega
    have hsn := tm_snoc hxl hok
    have hbad : ¬ r4 (t.getD x 0) → ¬ tmOK t := fun h h2 => h (h2 _ (getD_mem t x 0 hxl))
    have htk : (0 :: t.take (x + 1)) = (0 :: t.take x) ++ [t.getD (0 + Int.toNat x) 0] := by rw [hz, take_snoc t x 0 hxl]; rfl
    have htl : (t.take x).length = x := by rw [List.length_take]; omega
    rw [← hz] at hsn hbad
    rw [show t.take (0 + Int.toNat x + 1) = t.take (x + 1) by rw [hz]] at hsn
    rcases x with _ | x
    · rw [show capW 0 = some 1 from rfl]
      by_cases hr : r4 (t.getD (0 + Int.toNat (0 : Nat)) 0)
      · have hsn := hsn hr
        (repeat' (first
    | (intro Q h; refine h ?_; clear h Q)
    | (refine bcase_mk (fun hb => ?_) (fun hb => ?_) <;> (try simp only [nS, nT, eq_self, reduceCtorEq] at hb) <;> (try (exfalso; (omega); done)))
    | refine seq_go ?_
    | refine And.intro (by first | omega | ((try simp only [wS]); omega) | rfl | decide) ?_
    | (apply next_sub (Subtype.mk (0 + 1) ⟨by omega, hsn⟩); (focus (rw [htk]; apply le_mk [some 0, some 1, some 2, some 3, some 6]; (focus (iterate 2 (all_goals (repeat' (first | exact row_same rfl rfl rfl | (apply row_lit rfl; (focus (refine cells_succ (cells_succ ?_ ?_) ?_))) | exact trivial | (intro Q h; refine h ?_; clear h Q) | refine And.intro ?_ ?_ | exact sub_sl rfl rfl rfl | exact sub_refl_val _ _ | refine cells_succ ?_ ?_ | exact cell0 ))))); (any_goals (apply okIx_mk; rfl)))); (all_goals (try (first | (simp only; omega)))))
    ))
      · rw [hBn (hbad hr)]
        (repeat' (first
    | (intro Q h; refine h ?_; clear h Q)
    | (refine bcase_mk (fun hb => ?_) (fun hb => ?_) <;> (try simp only [nS, nT, eq_self, reduceCtorEq] at hb) <;> (try (exfalso; (omega); done)))
    | refine seq_go ?_
    | refine And.intro (by first | omega | ((try simp only [wS]); omega) | rfl | decide) ?_
    | (apply ret_mk [some 0, some 1, some 2]; (focus (iterate 2 (all_goals (repeat' (first | exact row_same rfl rfl rfl | exact trivial | (intro Q h; refine h ?_; clear h Q) | refine And.intro ?_ ?_ | exact sub_sbl rfl ))))); (any_goals (apply okIx_mk; rfl)))
    ))
    · rw [show capW (x + 1) = none from rfl]
      by_cases hr : r4 (t.getD (0 + Int.toNat (x + 1 : Nat)) 0)
      · have hsn := hsn hr
        (repeat' (first
    | (intro Q h; refine h ?_; clear h Q)
    | (refine bcase_mk (fun hb => ?_) (fun hb => ?_) <;> (try simp only [nS, nT, eq_self, reduceCtorEq] at hb) <;> (try (exfalso; (omega); done)))
    | refine seq_go ?_
    | refine And.intro (by first | omega | ((try simp only [wS]); omega) | rfl | decide) ?_
    | (apply next_sub (Subtype.mk (x + 1 + 1) ⟨by omega, hsn⟩); (focus (rw [htk]; apply le_mk [some 0, some 1, some 2, some 3, some 6]; (focus (iterate 2 (all_goals (repeat' (first | exact row_same rfl rfl rfl | exact trivial | (intro Q h; refine h ?_; clear h Q) | refine And.intro ?_ ?_ | exact sub_sl rfl rfl rfl | exact sub_refl_val _ _ | ((first | refine sub_int ?_ | show (_ : Nat) = _); first | with_reducible rfl | omega | ((try simp only [wS]); omega) | rfl) | apply row_app1 | refine cells_succ ?_ ?_ | exact cell0 | with_reducible rfl ))))); (any_goals (apply okIx_mk; rfl)))); (all_goals (try (first | (simp only; omega)))))
    ))
      · rw [hBn (hbad hr)]
        (repeat' (first
    | (intro Q h; refine h ?_; clear h Q)
    | (refine bcase_mk (fun hb => ?_) (fun hb => ?_) <;> (try simp only [nS, nT, eq_self, reduceCtorEq] at hb) <;> (try (exfalso; (omega); done)))
    | refine seq_go ?_
    | refine And.intro (by first | omega | ((try simp only [wS]); omega) | rfl | decide) ?_
    | (apply ret_mk [some 0, some 1, some 2]; (focus (iterate 2 (all_goals (repeat' (first | exact row_same rfl rfl rfl | exact trivial | (intro Q h; refine h ?_; clear h Q) | refine And.intro ?_ ?_ | exact sub_sbl rfl ))))); (any_goals (apply okIx_mk; rfl)))
    ))
  · have hxx : x = t.length := by omega
    subst hxx
    rw [List.take_length] at *
    have hho := hho hok
    rw [hB hok]
    (repeat' (first
    | (intro Q h; refine h ?_; clear h Q)
    | (refine bcase_mk (fun hb => ?_) (fun hb => ?_) <;> (try simp only [nS, nT, eq_self, reduceCtorEq] at hb) <;> (try (exfalso; (omega); done)))
    | refine seq_go ?_
    | ((first | apply call_detx [some 3, some 4] (hho) ); (focus ((iterate 2 (all_goals (repeat' (first | exact row_same rfl rfl rfl | exact subL_nil | exact trivial | (intro Q h; refine h ?_; clear h Q) | refine And.intro ?_ ?_ | refine subL_cons ?_ ?_ | exact sub_sl rfl rfl rfl )))))); (any_goals (first | (apply nodup_mk; rfl) )))
    | (apply ret_mk [some 0, some 1, some 2]; (focus (iterate 2 (all_goals (repeat' (first | exact row_same rfl rfl rfl | exact trivial | (intro Q h; refine h ?_; clear h Q) | refine And.intro ?_ ?_ | exact sub_sb rfl ))))); (any_goals (apply okIx_mk; rfl)))
    ))
end Go.Vx.L53

/- Lemmas of a small executor for the model, and contracts of functions, used for the law that this claim proves. No condition. -/
import Derived.Test.YtblcjjlggfpehaaBC6
set_option linter.unusedSimpArgs false
set_option linter.unusedVariables false
set_option maxRecDepth 100000
namespace Go.Vx.L53
open Go Go.Proofs
/-- An entry of a log. -/
structure En where
  k : Int
  nd : Int
  p : Int
  m : Int
  c : Int
  v : Int
def enC (e : En) : List AV := [.val (.int .i64 e.k), .val (.int .i64 e.nd), .val (.int .i64 e.p), .val (.int .i64 e.m), .val (.int .i64 e.c), .val (.int .i64 e.v)]
def en0 : En := ⟨0, 0, 0, 0, 0, 0⟩
def enF (l : List En) : Nat → Nat → AV := rowF enC en0 l
instance : FlatC enC := ⟨by intro e v hv; simp only [enC, List.mem_cons, List.not_mem_nil, or_false] at hv; rcases hv with rfl | rfl | rfl | rfl | rfl | rfl <;> exact trivial⟩
abbrev trB (e : En) : Prop := e.k = 1 ∨ e.k = 2
def rgE (e : En) : Prop := (0 ≤ e.nd ∧ e.nd < 24) ∧ (0 ≤ e.p ∧ e.p < 24) ∧ (0 ≤ e.m ∧ e.m ≤ 2147483647) ∧ (-4503599627370496 ≤ e.c ∧ e.c ≤ 4503599627370496) ∧ (-4503599627370496 ≤ e.v ∧ e.v ≤ 4503599627370496)
instance (e : En) : Decidable (rgE e) := inferInstanceAs (Decidable (_ ∧ _))
def fmE (e : En) : Prop := (trB e → e.v = 0 ∧ e.nd ≠ e.p) ∧ (¬ trB e → e.p = 0 ∧ e.m = 0) ∧ (e.k = 4 → e.v = 0)
instance (e : En) : Decidable (fmE e) := inferInstanceAs (Decidable (_ ∧ _))
/-- The error of an entry by itself. -/
def oneE (e : En) : Int := if ¬ (1 ≤ e.k ∧ e.k ≤ 4) then 8 else if ¬ rgE e then 3 else if ¬ fmE e then 7 else 0
theorem oneE_is (e : En) : (¬ (1 ≤ e.k ∧ e.k ≤ 4) ∧ oneE e = 8) ∨ ((1 ≤ e.k ∧ e.k ≤ 4) ∧ ¬ rgE e ∧ oneE e = 3) ∨ ((1 ≤ e.k ∧ e.k ≤ 4) ∧ rgE e ∧ ¬ fmE e ∧ oneE e = 7) ∨ ((1 ≤ e.k ∧ e.k ≤ 4) ∧ rgE e ∧ fmE e ∧ oneE e = 0) := by
  unfold oneE
  split
  · exact .inl ⟨by assumption, rfl⟩
  · split
    · exact .inr (.inl ⟨by omega, by assumption, rfl⟩)
    · split
      · rename_i h1 h2 h3
        exact .inr (.inr (.inl ⟨by omega, Decidable.not_not.1 h2, h3, rfl⟩))
      · rename_i h1 h2 h3
        exact .inr (.inr (.inr ⟨by omega, Decidable.not_not.1 h2, Decidable.not_not.1 h3, rfl⟩))
set_option maxHeartbeats 2000000 in
theorem entry_ok (e : En) : Runs Try.prog 49 [.agg (enC e)] [] (Det (.val (.int .i64 (oneE e))) []) := by
  have h := oneE_is e
  generalize oneE e = w at *
  obtain ⟨k, nd, p, m, c, v⟩ := e
  simp only [rgE, fmE, trB] at h
  refine Runs.mk tabOK Try.call49 Try.func49 rfl Try.ntmps49 Try.results49 rfl ?_
  (repeat' (first
    | (intro Q h; refine h ?_; clear h Q)
    | (refine bcase_mk (fun hb => ?_) (fun hb => ?_) <;> (try simp only [nS, nT, eq_self, reduceCtorEq] at hb) <;> (try (exfalso; (omega); done)))
    | refine seq_go ?_
    | (apply ret_mk []; (focus (iterate 2 (all_goals (repeat' (first | exact trivial | refine And.intro ?_ ?_ | ((first | refine sub_int ?_ ); first | with_reducible rfl | omega | ((try simp only [wS]); omega) | rfl) ))))); (any_goals (apply okIx_mk; rfl)))
    ))
theorem in_ok (n a b : Int) : Runs Try.prog 66 [.val (.int .i64 n), .val (.int .i64 a), .val (.int .i64 b)] [] (Det (.sb (decide (a ≤ n ∧ n ≤ b))) []) := by
  refine Runs.mk tabOK Try.call66 Try.func66 rfl Try.ntmps66 Try.results66 rfl ?_
  (repeat' (first
    | (intro Q h; refine h ?_; clear h Q)
    | (refine bcase_mk (fun hb => ?_) (fun hb => ?_) <;> (try simp only [nS, nT, eq_self, reduceCtorEq] at hb) <;> (try (exfalso; (omega); done)))
    | (apply ret_mk []; (focus (iterate 2 (all_goals (repeat' (first | exact trivial | refine And.intro ?_ ?_ | refine sub_sb ?_ | refine sub_sbl ?_ ))))); (any_goals (apply okIx_mk; rfl)))
    ))
  all_goals (simp_all <;> omega)
theorem travels_ok (e : En) : Runs Try.prog 67 [.agg (enC e)] [] (Det (.sb (decide (trB e))) []) := by
  obtain ⟨k, nd, p, m, c, v⟩ := e
  simp only [trB]
  refine Runs.mk tabOK Try.call67 Try.func67 rfl Try.ntmps67 Try.results67 rfl ?_
  (repeat' (first
    | (intro Q h; refine h ?_; clear h Q)
    | (refine bcase_mk (fun hb => ?_) (fun hb => ?_) <;> (try simp only [nS, nT, eq_self, reduceCtorEq] at hb) <;> (try (exfalso; (omega); done)))
    | (apply ret_mk []; (focus (iterate 2 (all_goals (repeat' (first | exact trivial | refine And.intro ?_ ?_ | refine sub_sb ?_ | refine sub_sbl ?_ ))))); (any_goals (apply okIx_mk; rfl)))
    ))
  all_goals (simp_all <;> rfl)
set_option maxHeartbeats 2000000 in
theorem rone_ok (e : En) : Runs Try.prog 52 [.agg (enC e)] [] (Det (.val (.int .i64 (oneE e))) []) := by
  have h := oneE_is e
  have ht := travels_ok e
  have hi := in_ok
  generalize oneE e = w at *
  obtain ⟨k, nd, p, m, c, v⟩ := e
  simp only [rgE, fmE, trB] at h ht
  refine Runs.mk tabOK Try.call52 Try.func52 rfl Try.ntmps52 Try.results52 rfl ?_
  (repeat' (first
    | (intro Q h; refine h ?_; clear h Q)
    | (refine bcase_mk (fun hb => ?_) (fun hb => ?_) <;> (try simp only [nS, nT, eq_self, reduceCtorEq] at hb) <;> (try (exfalso; (omega); done)))
    | refine seq_go ?_
    | ((first | apply call0 (hi _ _ _) ); (focus (iterate 2 (all_goals (repeat' (first | exact subL_nil | refine subL_cons ?_ ?_ | exact sub_refl_val _ _ ))))))
    | ((first | apply call0 (ht) ); (focus (iterate 2 (all_goals (repeat' (first | exact subL_nil | refine subL_cons ?_ ?_ | refine sub_agg ?_ | exact sub_refl_val _ _ ))))))
    | (apply ret_mk []; (focus (iterate 2 (all_goals (repeat' (first | exact trivial | refine And.intro ?_ ?_ | ((first | refine sub_int ?_ ); first | with_reducible rfl | omega | ((try simp only [wS]); omega) | rfl) ))))); (any_goals (apply okIx_mk; rfl)))
    ))
end Go.Vx.L53

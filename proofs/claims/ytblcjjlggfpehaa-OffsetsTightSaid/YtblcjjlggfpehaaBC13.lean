/- Lemmas of a small executor for the model, and contracts of functions, used for the law that this claim proves. No condition. -/
import Derived.Test.YtblcjjlggfpehaaBC12
set_option linter.unusedSimpArgs false
set_option linter.unusedVariables false
set_option maxRecDepth 100000
namespace Go.Vx.L53
open Go Go.Proofs
/-- A configuration. -/
structure Cf where
  ref : Int
  err : Int
  tol : List Int
  mn : Int
  mx : Int
abbrev aC (c : Cf) (b : Nat) (cap : Option Nat) : AV := .agg [.val (.int .i64 c.ref), .val (.int .i64 c.err), .sl b 1 0 c.tol.length cap, .val (.int .i64 c.mn), .val (.int .i64 c.mx)]
abbrev vC (c : Cf) (b : Nat) (cap : Option Nat) : Blk := .var [.val (.int .i64 c.ref), .val (.int .i64 c.err), .sl b 1 0 c.tol.length cap, .val (.int .i64 c.mn), .val (.int .i64 c.mx)]
abbrev gT (c : Cf) : Blk := .arr false 3 1 c.tol.length (intF c.tol)
def tolOK (t : List Int) : Prop := ∀ x ∈ t, 0 ≤ x ∧ x ≤ 500000
instance (t : List Int) : Decidable (tolOK t) := inferInstanceAs (Decidable (∀ x ∈ t, _))
/-- The error of a configuration. -/
def confE (c : Cf) : Int := if ¬ ((0 ≤ c.ref ∧ c.ref < 24) ∧ (0 ≤ c.err ∧ c.err ≤ 1125899906842624)) then 3 else if 24 < c.tol.length then 6 else if ¬ tolOK c.tol then 3 else
  if ¬ ((0 ≤ c.mn ∧ c.mn ≤ 1125899906842624) ∧ (0 ≤ c.mx ∧ c.mx ≤ 1125899906842624)) then 3 else if c.mx < c.mn then 12 else 0
theorem confE_is (c : Cf) : (¬ ((0 ≤ c.ref ∧ c.ref < 24) ∧ (0 ≤ c.err ∧ c.err ≤ 1125899906842624)) ∧ confE c = 3) ∨ (((0 ≤ c.ref ∧ c.ref < 24) ∧ (0 ≤ c.err ∧ c.err ≤ 1125899906842624)) ∧ ((24 < c.tol.length ∧ confE c = 6) ∨ (c.tol.length ≤ 24 ∧ ((¬ tolOK c.tol ∧ confE c = 3) ∨ (tolOK c.tol ∧
    ((¬ ((0 ≤ c.mn ∧ c.mn ≤ 1125899906842624) ∧ (0 ≤ c.mx ∧ c.mx ≤ 1125899906842624)) ∧ confE c = 3) ∨ (((0 ≤ c.mn ∧ c.mn ≤ 1125899906842624) ∧ (0 ≤ c.mx ∧ c.mx ≤ 1125899906842624)) ∧ ((c.mx < c.mn ∧ confE c = 12) ∨ (c.mn ≤ c.mx ∧ confE c = 0))))))))) := by
  unfold confE
  split
  · exact .inl ⟨by assumption, rfl⟩
  rename_i h1
  refine .inr ⟨Decidable.not_not.1 h1, ?_⟩
  split
  · exact .inl ⟨by assumption, rfl⟩
  refine .inr ⟨by omega, ?_⟩
  split
  · exact .inl ⟨by assumption, rfl⟩
  rename_i h2
  refine .inr ⟨Decidable.not_not.1 h2, ?_⟩
  split
  · exact .inl ⟨by assumption, rfl⟩
  rename_i h3
  refine .inr ⟨Decidable.not_not.1 h3, ?_⟩
  split
  · exact .inl ⟨by assumption, rfl⟩
  · exact .inr ⟨by omega, rfl⟩
theorem tolOK_no {t : List Int} {x : Nat} (hx : x < t.length) (h : ¬ (0 ≤ t.getD x 0 ∧ t.getD x 0 ≤ 500000)) : ¬ tolOK t := fun hh => h (hh _ (getD_mem t x 0 hx))
theorem tolOK_snoc {t : List Int} {x : Nat} (hx : x < t.length) (h : tolOK (t.take x)) (h1 : 0 ≤ t.getD x 0) (h2 : t.getD x 0 ≤ 500000) : tolOK (t.take (x + 1)) := fun y hy => by
  rw [take_snoc t x 0 hx, List.mem_append, List.mem_singleton] at hy
  rcases hy with hy | rfl
  · exact h y hy
  · exact ⟨h1, h2⟩
set_option maxHeartbeats 1000000 in
theorem conf_ok (c : Cf) (cap : Option Nat) (hl : c.tol.length ≤ maxLen) : Runs Try.prog 27 [aC c 0 cap] [gT c] (Det (.val (.int .i64 (confE c))) [gT c]) := by
  have hmx : maxLen = 9223372036854775807 := by decide
  have h := confE_is c
  generalize confE c = w at *
  obtain ⟨ref, err, tol, mn, mx⟩ := c
  simp only at h hl
  have h' : (tolOK tol ∧ (¬ ((0 ≤ ref ∧ ref < 24) ∧ (0 ≤ err ∧ err ≤ 1125899906842624)) ∧ w = 3 ∨ ((0 ≤ ref ∧ ref < 24) ∧ (0 ≤ err ∧ err ≤ 1125899906842624)) ∧ (24 < tol.length ∧ w = 6 ∨ tol.length ≤ 24 ∧ ((¬ ((0 ≤ mn ∧ mn ≤ 1125899906842624) ∧ (0 ≤ mx ∧ mx ≤ 1125899906842624)) ∧ w = 3) ∨ (((0 ≤ mn ∧ mn ≤ 1125899906842624) ∧ (0 ≤ mx ∧ mx ≤ 1125899906842624)) ∧ ((mx < mn ∧ w = 12) ∨ (mn ≤ mx ∧ w = 0))))))) ∨
      (¬ tolOK tol ∧ (¬ ((0 ≤ ref ∧ ref < 24) ∧ (0 ≤ err ∧ err ≤ 1125899906842624)) ∧ w = 3 ∨ ((0 ≤ ref ∧ ref < 24) ∧ (0 ≤ err ∧ err ≤ 1125899906842624)) ∧ (24 < tol.length ∧ w = 6 ∨ tol.length ≤ 24 ∧ w = 3))) := by
    by_cases hA : tolOK tol
    · simp only [hA, not_true_eq_false, false_and, false_or, true_and] at h
      exact .inl ⟨hA, h⟩
    · simp only [hA, not_false_eq_true, false_and, or_false, true_and] at h
      exact .inr ⟨hA, h⟩
  clear h
  refine Runs.mk tabOK Try.call27 Try.func27 rfl Try.ntmps27 Try.results27 rfl ?_
  (repeat' (first
    | (intro Q h; refine h ?_; clear h Q)
    | (refine bcase_mk (fun hb => ?_) (fun hb => ?_) <;> (try simp only [nS, nT, eq_self, reduceCtorEq] at hb) <;> (try (exfalso; (omega); done)))
    | refine seq_go ?_
    | (apply ret_mk [some 0]; (focus (iterate 2 (all_goals (repeat' (first | exact trivial | (intro Q h; refine h ?_; clear h Q) | refine And.intro ?_ ?_ | exact row_same rfl rfl rfl | ((first | refine sub_int ?_ ); first | with_reducible rfl | omega | ((try simp only [wS]); omega) | rfl) ))))); (any_goals (apply okIx_mk; rfl)))
    ))
  all_goals try (rcases h' with ⟨_, h⟩ | ⟨_, h⟩ <;> omega)
  refine loop_inv (σ := Nat) (fun x => x ≤ tol.length ∧ tolOK (tol.take x)) (fun x => ⟨[(1, .ptr 1 5 0 0), (28, .sl 0 1 0 tol.length cap), (29, .val (.int .i64 tol.length)), (30, .val (.int .i64 x))], [gT ⟨ref, err, tol, mn, mx⟩, vC ⟨ref, err, tol, mn, mx⟩ 0 cap]⟩) (fun x => tol.length - x) (0) ?_ ?_ ?_
  · exact ⟨by omega, fun x hx => by simp at hx⟩
  · (apply le_mk [some 0, some 1]; (focus (iterate 2 (all_goals (repeat' (first | exact subL_nil | exact trivial | (intro Q h; refine h ?_; clear h Q) | refine And.intro ?_ ?_ | refine subL_cons ?_ ?_ | refine var_mk ?_ | exact sub_ptr rfl rfl | exact sub_sl rfl rfl rfl | exact sub_refl_val _ _ | exact row_same rfl rfl rfl ))))); (any_goals (apply okIx_mk; rfl)))
  rintro x ⟨hx, ht⟩
  by_cases hxl : x < tol.length
  · have hz : 0 + Int.toNat x = x := by omega
    have hno := tolOK_no hxl
    have hsn := tolOK_snoc hxl ht
    rw [← hz] at hno hsn
    rw [show tol.take (0 + Int.toNat x + 1) = tol.take (x + 1) by rw [hz]] at hsn
    (repeat' (first
    | (intro Q h; refine h ?_; clear h Q)
    | (refine bcase_mk (fun hb => ?_) (fun hb => ?_) <;> (try simp only [nS, nT, eq_self, reduceCtorEq] at hb) <;> (try (exfalso; (omega); done)))
    | refine seq_go ?_
    | refine And.intro (by first | omega | ((try simp only [wS]); omega) | rfl | decide) ?_
    | (apply ret_mk [some 0]; (focus (iterate 2 (all_goals (repeat' (first | exact trivial | (intro Q h; refine h ?_; clear h Q) | refine And.intro ?_ ?_ | exact row_same rfl rfl rfl | refine sub_int ?_ ))))); (any_goals (apply okIx_mk; rfl)))
    | (apply next_sub (Subtype.mk (x + 1) _); (focus (apply le_mk [some 0, some 1]; (focus (iterate 2 (all_goals (repeat' (first | exact subL_nil | exact trivial | (intro Q h; refine h ?_; clear h Q) | refine And.intro ?_ ?_ | refine subL_cons ?_ ?_ | refine var_mk ?_ | exact sub_ptr rfl rfl | exact sub_sl rfl rfl rfl | exact sub_refl_val _ _ | exact row_same rfl rfl rfl | ((first | refine sub_int ?_ ); first | with_reducible rfl | omega | ((try simp only [wS]); omega) | rfl) ))))); (any_goals (apply okIx_mk; rfl)))); (all_goals (try (first | (simp only; omega)))))
    ))
    all_goals first | exact hsn (by omega) (by omega) | (have hn := hno (by omega); obtain ⟨hA, _⟩ | ⟨_, h⟩ := h'; exact absurd hA hn; omega) | fail
  · have hxx : x = tol.length := by omega
    subst hxx
    rw [List.take_length] at ht
    obtain ⟨_, h⟩ | ⟨hA, _⟩ := h'
    rotate_left
    · exact absurd ht hA
    (repeat' (first
    | (intro Q h; refine h ?_; clear h Q)
    | (refine bcase_mk (fun hb => ?_) (fun hb => ?_) <;> (try simp only [nS, nT, eq_self, reduceCtorEq] at hb) <;> (try (exfalso; (omega); done)))
    | refine seq_go ?_
    | (apply ret_mk [some 0]; (focus (iterate 2 (all_goals (repeat' (first | exact trivial | (intro Q h; refine h ?_; clear h Q) | refine And.intro ?_ ?_ | exact row_same rfl rfl rfl | ((first | refine sub_int ?_ ); first | with_reducible rfl | omega | ((try simp only [wS]); omega) | rfl) ))))); (any_goals (apply okIx_mk; rfl)))
    ))
set_option maxHeartbeats 1000000 in
theorem rconf_ok (c : Cf) (cap : Option Nat) (hl : c.tol.length ≤ maxLen) : Runs Try.prog 32 [aC c 0 cap] [gT c] (Det (.val (.int .i64 (confE c))) [gT c]) := by
  have hmx : maxLen = 9223372036854775807 := by decide
  have h := confE_is c
  generalize confE c = w at *
  obtain ⟨ref, err, tol, mn, mx⟩ := c
  simp only at h hl
  have h' : (tolOK tol ∧ (¬ ((0 ≤ ref ∧ ref < 24) ∧ (0 ≤ err ∧ err ≤ 1125899906842624)) ∧ w = 3 ∨ ((0 ≤ ref ∧ ref < 24) ∧ (0 ≤ err ∧ err ≤ 1125899906842624)) ∧ (24 < tol.length ∧ w = 6 ∨ tol.length ≤ 24 ∧ ((¬ ((0 ≤ mn ∧ mn ≤ 1125899906842624) ∧ (0 ≤ mx ∧ mx ≤ 1125899906842624)) ∧ w = 3) ∨ (((0 ≤ mn ∧ mn ≤ 1125899906842624) ∧ (0 ≤ mx ∧ mx ≤ 1125899906842624)) ∧ ((mx < mn ∧ w = 12) ∨ (mn ≤ mx ∧ w = 0))))))) ∨
      (¬ tolOK tol ∧ (¬ ((0 ≤ ref ∧ ref < 24) ∧ (0 ≤ err ∧ err ≤ 1125899906842624)) ∧ w = 3 ∨ ((0 ≤ ref ∧ ref < 24) ∧ (0 ≤ err ∧ err ≤ 1125899906842624)) ∧ (24 < tol.length ∧ w = 6 ∨ tol.length ≤ 24 ∧ w = 3))) := by
    by_cases hA : tolOK tol
    · simp only [hA, not_true_eq_false, false_and, false_or, true_and] at h
      exact .inl ⟨hA, h⟩
    · simp only [hA, not_false_eq_true, false_and, or_false, true_and] at h
      exact .inr ⟨hA, h⟩
  clear h
  refine Runs.mk tabOK Try.call32 Try.func32 rfl Try.ntmps32 Try.results32 rfl ?_
  (repeat' (first
    | (intro Q h; refine h ?_; clear h Q)
    | (refine bcase_mk (fun hb => ?_) (fun hb => ?_) <;> (try simp only [nS, nT, eq_self, reduceCtorEq] at hb) <;> (try (exfalso; (omega); done)))
    | refine seq_go ?_
    | (apply ret_mk [some 0]; (focus (iterate 2 (all_goals (repeat' (first | exact trivial | (intro Q h; refine h ?_; clear h Q) | refine And.intro ?_ ?_ | exact row_same rfl rfl rfl | ((first | refine sub_int ?_ ); first | with_reducible rfl | omega | ((try simp only [wS]); omega) | rfl) ))))); (any_goals (apply okIx_mk; rfl)))
    ))
  all_goals try (rcases h' with ⟨_, h⟩ | ⟨_, h⟩ <;> omega)
  refine loop_inv (σ := Nat) (fun x => x ≤ tol.length ∧ tolOK (tol.take x)) (fun x => ⟨[(1, .ptr 1 5 0 0), (3, .val (.int .i64 x))], [gT ⟨ref, err, tol, mn, mx⟩, vC ⟨ref, err, tol, mn, mx⟩ 0 cap]⟩) (fun x => tol.length - x) (0) ?_ ?_ ?_
  · exact ⟨by omega, fun x hx => by simp at hx⟩
  · (apply le_mk [some 0, some 1]; (focus (iterate 2 (all_goals (repeat' (first | exact subL_nil | exact trivial | (intro Q h; refine h ?_; clear h Q) | refine And.intro ?_ ?_ | refine subL_cons ?_ ?_ | refine var_mk ?_ | exact sub_ptr rfl rfl | exact sub_sl rfl rfl rfl | exact sub_refl_val _ _ | exact row_same rfl rfl rfl ))))); (any_goals (apply okIx_mk; rfl)))
  rintro x ⟨hx, ht⟩
  by_cases hxl : x < tol.length
  · have hz : 0 + Int.toNat x = x := by omega
    have hno := tolOK_no hxl
    have hsn := tolOK_snoc hxl ht
    rw [← hz] at hno hsn
    rw [show tol.take (0 + Int.toNat x + 1) = tol.take (x + 1) by rw [hz]] at hsn
    (repeat' (first
    | (intro Q h; refine h ?_; clear h Q)
    | (refine bcase_mk (fun hb => ?_) (fun hb => ?_) <;> (try simp only [nS, nT, eq_self, reduceCtorEq] at hb) <;> (try (exfalso; (omega); done)))
    | refine seq_go ?_
    | refine And.intro (by first | omega | ((try simp only [wS]); omega) | rfl | decide) ?_
    | (apply ret_mk [some 0]; (focus (iterate 2 (all_goals (repeat' (first | exact trivial | (intro Q h; refine h ?_; clear h Q) | refine And.intro ?_ ?_ | exact row_same rfl rfl rfl | refine sub_int ?_ ))))); (any_goals (apply okIx_mk; rfl)))
    | (apply next_sub (Subtype.mk (x + 1) _); (focus (apply le_mk [some 0, some 1]; (focus (iterate 2 (all_goals (repeat' (first | exact subL_nil | exact trivial | (intro Q h; refine h ?_; clear h Q) | refine And.intro ?_ ?_ | refine subL_cons ?_ ?_ | refine var_mk ?_ | exact sub_ptr rfl rfl | exact sub_sl rfl rfl rfl | exact sub_refl_val _ _ | exact row_same rfl rfl rfl | ((first | refine sub_int ?_ ); first | with_reducible rfl | omega | ((try simp only [wS]); omega) | rfl) ))))); (any_goals (apply okIx_mk; rfl)))); (all_goals (try (first | (simp only; omega)))))
    ))
    all_goals first | exact hsn (by omega) (by omega) | (have hn := hno (by omega); obtain ⟨hA, _⟩ | ⟨_, h⟩ := h'; exact absurd hA hn; omega) | fail
  · have hxx : x = tol.length := by omega
    subst hxx
    rw [List.take_length] at ht
    obtain ⟨_, h⟩ | ⟨hA, _⟩ := h'
    rotate_left
    · exact absurd ht hA
    (repeat' (first
    | (intro Q h; refine h ?_; clear h Q)
    | (refine bcase_mk (fun hb => ?_) (fun hb => ?_) <;> (try simp only [nS, nT, eq_self, reduceCtorEq] at hb) <;> (try (exfalso; (omega); done)))
    | refine seq_go ?_
    | (apply ret_mk [some 0]; (focus (iterate 2 (all_goals (repeat' (first | exact trivial | (intro Q h; refine h ?_; clear h Q) | refine And.intro ?_ ?_ | exact row_same rfl rfl rfl | ((first | refine sub_int ?_ ); first | with_reducible rfl | omega | ((try simp only [wS]); omega) | rfl) ))))); (any_goals (apply okIx_mk; rfl)))
    ))
/-- The tolerance of a node. -/
def tolF (c : Cf) (n : Int) : Int := if n < c.tol.length then c.tol.getD n.toNat 0 else 500000
theorem tol_ok (c : Cf) (cap : Option Nat) (hl : c.tol.length ≤ 24) (n : Int) (hn : 0 ≤ n) : Runs Try.prog 30 [aC c 0 cap, .val (.int .i64 n)] [gT c] (Det (.val (.int .i64 (tolF c n))) [gT c]) := by
  have h : (n < c.tol.length ∧ tolF c n = c.tol.getD (0 + n.toNat) 0) ∨ (c.tol.length ≤ n ∧ tolF c n = 500000) := by
    unfold tolF
    split
    · rw [Nat.zero_add]; exact .inl ⟨by assumption, rfl⟩
    · exact .inr ⟨by omega, rfl⟩
  generalize tolF c n = w at *
  refine Runs.mk tabOK Try.call30 Try.func30 rfl Try.ntmps30 Try.results30 rfl ?_
  (repeat' (first
    | (intro Q h; refine h ?_; clear h Q)
    | (refine bcase_mk (fun hb => ?_) (fun hb => ?_) <;> (try simp only [nS, nT, eq_self, reduceCtorEq] at hb) <;> (try (exfalso; (omega); done)))
    | refine seq_go ?_
    | refine And.intro (by first | omega | ((try simp only [wS]); omega) | rfl | decide) ?_
    | (apply ret_mk [some 0]; (focus (iterate 2 (all_goals (repeat' (first | exact trivial | (intro Q h; refine h ?_; clear h Q) | refine And.intro ?_ ?_ | exact row_same rfl rfl rfl | ((first | refine sub_int ?_ ); first | with_reducible rfl | omega | ((try simp only [wS]); omega) | rfl) ))))); (any_goals (apply okIx_mk; rfl)))
    ))
theorem rtol_ok (c : Cf) (cap : Option Nat) (hl : c.tol.length ≤ 24) (n : Int) (hn : 0 ≤ n) : Runs Try.prog 36 [aC c 0 cap, .val (.int .i64 n)] [gT c] (Det (.val (.int .i64 (tolF c n))) [gT c]) := by
  have h : (n < c.tol.length ∧ tolF c n = c.tol.getD (0 + n.toNat) 0) ∨ (c.tol.length ≤ n ∧ tolF c n = 500000) := by
    unfold tolF
    split
    · rw [Nat.zero_add]; exact .inl ⟨by assumption, rfl⟩
    · exact .inr ⟨by omega, rfl⟩
  generalize tolF c n = w at *
  refine Runs.mk tabOK Try.call36 Try.func36 rfl Try.ntmps36 Try.results36 rfl ?_
  (repeat' (first
    | (intro Q h; refine h ?_; clear h Q)
    | (refine bcase_mk (fun hb => ?_) (fun hb => ?_) <;> (try simp only [nS, nT, eq_self, reduceCtorEq] at hb) <;> (try (exfalso; (omega); done)))
    | refine seq_go ?_
    | refine And.intro (by first | omega | ((try simp only [wS]); omega) | rfl | decide) ?_
    | (apply ret_mk [some 0]; (focus (iterate 2 (all_goals (repeat' (first | exact trivial | (intro Q h; refine h ?_; clear h Q) | refine And.intro ?_ ?_ | exact row_same rfl rfl rfl | ((first | refine sub_int ?_ ); first | with_reducible rfl | omega | ((try simp only [wS]); omega) | rfl) ))))); (any_goals (apply okIx_mk; rfl)))
    ))
end Go.Vx.L53

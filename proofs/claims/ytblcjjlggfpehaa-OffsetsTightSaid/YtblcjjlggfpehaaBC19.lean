/- Lemmas of a small executor for the model, and contracts of functions, used for the law that this claim proves. No condition. -/
import Derived.Test.YtblcjjlggfpehaaBC18
set_option linter.unusedSimpArgs false
set_option linter.unusedVariables false
set_option maxRecDepth 100000
namespace Go.Vx.L53
open Go Go.Proofs
abbrev aN (l : List Cn) (cap : Option Nat) : AV := .sl 0 3 0 l.length cap
theorem valid_ok (n : Int) (c : Cn) : Runs Try.prog 63 [.val (.int .i64 n), .agg (cnC c)] [] (Det (.sb (decide ((0 ≤ c.a ∧ c.a < n) ∧ (0 ≤ c.b ∧ c.b < n) ∧ (-9007199254740992 ≤ c.w ∧ c.w ≤ 9007199254740992)))) []) := by
  obtain ⟨a, b, w⟩ := c
  simp only
  have h : ∀ q : Bool, (q = true ↔ ((0 ≤ a ∧ a < n) ∧ (0 ≤ b ∧ b < n) ∧ (-9007199254740992 ≤ w ∧ w ≤ 9007199254740992))) → q = decide ((0 ≤ a ∧ a < n) ∧ (0 ≤ b ∧ b < n) ∧ (-9007199254740992 ≤ w ∧ w ≤ 9007199254740992)) := fun q h => by
    rw [Bool.eq_iff_iff, h, decide_eq_true_eq]
  generalize decide ((0 ≤ a ∧ a < n) ∧ (0 ≤ b ∧ b < n) ∧ (-9007199254740992 ≤ w ∧ w ≤ 9007199254740992)) = z at *
  refine Runs.mk tabOK Try.call63 Try.func63 rfl Try.ntmps63 Try.results63 rfl ?_
  (repeat' (first
    | (intro Q h; refine h ?_; clear h Q)
    | (refine bcase_mk (fun hb => ?_) (fun hb => ?_) <;> (try simp only [nS, nT, eq_self, reduceCtorEq] at hb) <;> (try (exfalso; (omega); done)))
    | (apply ret_mk []; (focus (iterate 2 (all_goals (repeat' (first | exact trivial | refine And.intro ?_ ?_ | refine sub_sb ?_ | refine sub_sbl ?_ ))))); (any_goals (apply okIx_mk; rfl)))
    ))
  all_goals (refine h _ ?_; (try simp only [decide_eq_true_eq, Bool.false_eq_true, false_iff]); omega)
theorem right_ok (n : Int) (c : Cn) : Runs Try.prog 84 [.val (.int .i64 n), .agg (cnC c)] [] (Det (.sb (decide ((0 ≤ c.a ∧ c.a < n) ∧ (0 ≤ c.b ∧ c.b < n) ∧ (-9007199254740992 ≤ c.w ∧ c.w ≤ 9007199254740992)))) []) := by
  obtain ⟨a, b, w⟩ := c
  simp only
  have h : ∀ q : Bool, (q = true ↔ ((0 ≤ a ∧ a < n) ∧ (0 ≤ b ∧ b < n) ∧ (-9007199254740992 ≤ w ∧ w ≤ 9007199254740992))) → q = decide ((0 ≤ a ∧ a < n) ∧ (0 ≤ b ∧ b < n) ∧ (-9007199254740992 ≤ w ∧ w ≤ 9007199254740992)) := fun q h => by
    rw [Bool.eq_iff_iff, h, decide_eq_true_eq]
  generalize decide ((0 ≤ a ∧ a < n) ∧ (0 ≤ b ∧ b < n) ∧ (-9007199254740992 ≤ w ∧ w ≤ 9007199254740992)) = z at *
  refine Runs.mk tabOK Try.call84 Try.func84 rfl Try.ntmps84 Try.results84 rfl ?_
  (repeat' (first
    | (intro Q h; refine h ?_; clear h Q)
    | (refine bcase_mk (fun hb => ?_) (fun hb => ?_) <;> (try simp only [nS, nT, eq_self, reduceCtorEq] at hb) <;> (try (exfalso; (omega); done)))
    | (apply ret_mk []; (focus (iterate 2 (all_goals (repeat' (first | exact trivial | refine And.intro ?_ ?_ | refine sub_sb ?_ | refine sub_sbl ?_ ))))); (any_goals (apply okIx_mk; rfl)))
    ))
  all_goals (refine h _ ?_; (try simp only [decide_eq_true_eq, Bool.false_eq_true, false_iff]); omega)
theorem allOK_snoc {n : Nat} {l : List Cn} {x : Nat} (hx : x < l.length) (h : allOK n (l.take x)) (h1 : cnOK n (l.getD x cn0)) : allOK n (l.take (x + 1)) := fun y hy => by
  rw [take_snoc l x cn0 hx, List.mem_append, List.mem_singleton] at hy
  rcases hy with hy | rfl
  · exact h y hy
  · exact h1
theorem cchk_is (n : Int) (l : List Cn) : (¬ (1 ≤ n ∧ n ≤ 160) ∧ cchk n l = 3) ∨ ((1 ≤ n ∧ n ≤ 160) ∧ 4096 < l.length ∧ cchk n l = 6) ∨ ((1 ≤ n ∧ n ≤ 160) ∧ l.length ≤ 4096 ∧ cchk n l = if allOK n.toNat l then 0 else 3) := by
  unfold cchk
  by_cases h1 : 1 ≤ n ∧ n ≤ 160
  · by_cases h2 : 4096 < l.length
    · exact .inr (.inl ⟨h1, h2, by rw [if_neg (not_not_intro h1), if_pos h2]⟩)
    · exact .inr (.inr ⟨h1, by omega, by rw [if_neg (not_not_intro h1), if_neg h2]⟩)
  · exact .inl ⟨h1, if_pos h1⟩
set_option maxHeartbeats 1000000 in
theorem cchk_ok (n : Int) (l : List Cn) (cap : Option Nat) (hl : l.length ≤ maxLen) : Runs Try.prog 44 [.val (.int .i64 n), aN l cap] [cB false l] (Det (.val (.int .i64 (cchk n l))) [cB false l]) := by
  have hmx : maxLen = 9223372036854775807 := by decide
  have h := cchk_is n l
  generalize cchk n l = w at *
  have h' : (¬ (1 ≤ n ∧ n ≤ 160) ∧ w = 3) ∨ ((1 ≤ n ∧ n ≤ 160) ∧ 4096 < l.length ∧ w = 6) ∨ ((1 ≤ n ∧ n ≤ 160) ∧ l.length ≤ 4096) := by
    rcases h with ⟨h, h1⟩ | ⟨h, h1, h2⟩ | ⟨h, h1, _⟩
    · exact .inl ⟨h, h1⟩
    · exact .inr (.inl ⟨h, h1, h2⟩)
    · exact .inr (.inr ⟨h, h1⟩)
  refine Runs.mk tabOK Try.call44 Try.func44 rfl Try.ntmps44 Try.results44 rfl ?_
  (repeat' (first
    | (intro Q h; refine h ?_; clear h Q)
    | (refine bcase_mk (fun hb => ?_) (fun hb => ?_) <;> (try simp only [nS, nT, eq_self, reduceCtorEq] at hb) <;> (try (exfalso; (omega); done)))
    | refine seq_go ?_
    | (apply ret_mk [some 0]; (focus (iterate 2 (all_goals (repeat' (first | exact trivial | (intro Q h; refine h ?_; clear h Q) | refine And.intro ?_ ?_ | exact row_same rfl rfl rfl | ((first | refine sub_int ?_ ); first | with_reducible rfl | omega | ((try simp only [wS]); omega) | rfl) ))))); (any_goals (apply okIx_mk; rfl)))
    ))
  all_goals try (clear h; omega)
  refine loop_inv (σ := Nat) (fun x => x ≤ l.length ∧ allOK n.toNat (l.take x)) (fun x => ⟨[(0, .val (.int .i64 n)), (16, aN l cap), (17, .val (.int .i64 l.length)), (18, .val (.int .i64 x))], [cB false l]⟩) (fun x => l.length - x) (0) ?_ ?_ ?_
  · exact ⟨by omega, fun x hx => by simp at hx⟩
  · (apply le_mk [some 0]; (focus (iterate 2 (all_goals (repeat' (first | exact trivial | (intro Q h; refine h ?_; clear h Q) | refine And.intro ?_ ?_ | exact sub_sl rfl rfl rfl | exact sub_refl_val _ _ | exact row_same rfl rfl rfl ))))); (any_goals (apply okIx_mk; rfl)))
  rintro x ⟨hx, ht⟩
  have hn : n = (n.toNat : Nat) := by omega
  have hw : w = if allOK n.toNat l then 0 else 3 := by
    rcases h with ⟨h, h1⟩ | ⟨h, h1, h2⟩ | ⟨h, h1, h2⟩
    · omega
    · omega
    · exact h2
  by_cases hxl : x < l.length
  · have hz : 0 + Int.toNat x = x := by omega
    have hv := valid_ok n (l.getD (0 + Int.toNat x) cn0)
    have hsn := allOK_snoc hxl ht
    rw [hz] at hv
    by_cases hc : cnOK n.toNat (l.getD x cn0)
    · have hc' : ((0 ≤ (l.getD x cn0).a ∧ (l.getD x cn0).a < n) ∧ (0 ≤ (l.getD x cn0).b ∧ (l.getD x cn0).b < n) ∧ (-9007199254740992 ≤ (l.getD x cn0).w ∧ (l.getD x cn0).w ≤ 9007199254740992)) := by
        rw [hn]; exact hc
      rw [decide_eq_true hc'] at hv
      rw [← hz] at hv
      (repeat' (first
    | (intro Q h; refine h ?_; clear h Q)
    | (refine bcase_mk (fun hb => ?_) (fun hb => ?_) <;> (try simp only [nS, nT, eq_self, reduceCtorEq] at hb) <;> (try (exfalso; (omega); done)))
    | refine seq_go ?_
    | refine And.intro (by first | omega | ((try simp only [wS]); omega) | rfl | decide) ?_
    | ((first | apply call0 (hv) ); (focus (iterate 2 (all_goals (repeat' (first | exact subL_nil | refine subL_cons ?_ ?_ | refine sub_agg ?_ | exact sub_refl_val _ _ ))))))
    | (apply next_sub (Subtype.mk (x + 1) _); (focus (apply le_mk [some 0]; (focus (iterate 2 (all_goals (repeat' (first | exact trivial | (intro Q h; refine h ?_; clear h Q) | refine And.intro ?_ ?_ | exact sub_sl rfl rfl rfl | exact sub_refl_val _ _ | exact row_same rfl rfl rfl | ((first | refine sub_int ?_ ); first | with_reducible rfl | omega | ((try simp only [wS]); omega) | rfl) ))))); (any_goals (apply okIx_mk; rfl)))); (all_goals (try (first | (simp only; omega)))))
    ))
      all_goals first | exact hsn hc | fail
    · have hc' : ¬ ((0 ≤ (l.getD x cn0).a ∧ (l.getD x cn0).a < n) ∧ (0 ≤ (l.getD x cn0).b ∧ (l.getD x cn0).b < n) ∧ (-9007199254740992 ≤ (l.getD x cn0).w ∧ (l.getD x cn0).w ≤ 9007199254740992)) := by
        rw [hn]; exact hc
      rw [decide_eq_false hc'] at hv
      rw [if_neg (fun h => hc (h _ (getD_mem l x cn0 hxl)))] at hw
      rw [← hz] at hv
      (repeat' (first
    | (intro Q h; refine h ?_; clear h Q)
    | (refine bcase_mk (fun hb => ?_) (fun hb => ?_) <;> (try simp only [nS, nT, eq_self, reduceCtorEq] at hb) <;> (try (exfalso; (omega); done)))
    | refine seq_go ?_
    | refine And.intro (by first | omega | ((try simp only [wS]); omega) | rfl | decide) ?_
    | ((first | apply call0 (hv) ); (focus (iterate 2 (all_goals (repeat' (first | exact subL_nil | refine subL_cons ?_ ?_ | refine sub_agg ?_ | exact sub_refl_val _ _ ))))))
    | (apply ret_mk [some 0]; (focus (iterate 2 (all_goals (repeat' (first | exact trivial | (intro Q h; refine h ?_; clear h Q) | refine And.intro ?_ ?_ | exact row_same rfl rfl rfl | ((first | refine sub_int ?_ ); first | with_reducible rfl | omega | ((try simp only [wS]); omega) | rfl) ))))); (any_goals (apply okIx_mk; rfl)))
    ))
  · have hxx : x = l.length := by omega
    subst hxx
    rw [List.take_length] at ht
    rw [if_pos ht] at hw
    (repeat' (first
    | (intro Q h; refine h ?_; clear h Q)
    | (refine bcase_mk (fun hb => ?_) (fun hb => ?_) <;> (try simp only [nS, nT, eq_self, reduceCtorEq] at hb) <;> (try (exfalso; (omega); done)))
    | (apply ret_mk [some 0]; (focus (iterate 2 (all_goals (repeat' (first | exact trivial | (intro Q h; refine h ?_; clear h Q) | refine And.intro ?_ ?_ | exact row_same rfl rfl rfl | ((first | refine sub_int ?_ ); first | with_reducible rfl | omega | ((try simp only [wS]); omega) | rfl) ))))); (any_goals (apply okIx_mk; rfl)))
    ))
set_option maxHeartbeats 1000000 in
theorem rcchk_ok (n : Int) (l : List Cn) (cap : Option Nat) (hl : l.length ≤ maxLen) : Runs Try.prog 64 [.val (.int .i64 n), aN l cap] [cB false l] (Det (.val (.int .i64 (cchk n l))) [cB false l]) := by
  have hmx : maxLen = 9223372036854775807 := by decide
  have h := cchk_is n l
  generalize cchk n l = w at *
  have h' : (¬ (1 ≤ n ∧ n ≤ 160) ∧ w = 3) ∨ ((1 ≤ n ∧ n ≤ 160) ∧ 4096 < l.length ∧ w = 6) ∨ ((1 ≤ n ∧ n ≤ 160) ∧ l.length ≤ 4096) := by
    rcases h with ⟨h, h1⟩ | ⟨h, h1, h2⟩ | ⟨h, h1, _⟩
    · exact .inl ⟨h, h1⟩
    · exact .inr (.inl ⟨h, h1, h2⟩)
    · exact .inr (.inr ⟨h, h1⟩)
  refine Runs.mk tabOK Try.call64 Try.func64 rfl Try.ntmps64 Try.results64 rfl ?_
  (repeat' (first
    | (intro Q h; refine h ?_; clear h Q)
    | (refine bcase_mk (fun hb => ?_) (fun hb => ?_) <;> (try simp only [nS, nT, eq_self, reduceCtorEq] at hb) <;> (try (exfalso; (omega); done)))
    | refine seq_go ?_
    | (apply ret_mk [some 0]; (focus (iterate 2 (all_goals (repeat' (first | exact trivial | (intro Q h; refine h ?_; clear h Q) | refine And.intro ?_ ?_ | exact row_same rfl rfl rfl | ((first | refine sub_int ?_ ); first | with_reducible rfl | omega | ((try simp only [wS]); omega) | rfl) ))))); (any_goals (apply okIx_mk; rfl)))
    ))
  all_goals try (clear h; omega)
  refine loop_inv (σ := Nat) (fun x => x ≤ l.length ∧ allOK n.toNat (l.take x)) (fun x => ⟨[(0, .val (.int .i64 n)), (1, aN l cap), (5, .val (.int .i64 x))], [cB false l]⟩) (fun x => l.length - x) (0) ?_ ?_ ?_
  · exact ⟨by omega, fun x hx => by simp at hx⟩
  · (apply le_mk [some 0]; (focus (iterate 2 (all_goals (repeat' (first | exact trivial | (intro Q h; refine h ?_; clear h Q) | refine And.intro ?_ ?_ | exact sub_sl rfl rfl rfl | exact sub_refl_val _ _ | exact row_same rfl rfl rfl ))))); (any_goals (apply okIx_mk; rfl)))
  rintro x ⟨hx, ht⟩
  have hn : n = (n.toNat : Nat) := by omega
  have hw : w = if allOK n.toNat l then 0 else 3 := by
    rcases h with ⟨h, h1⟩ | ⟨h, h1, h2⟩ | ⟨h, h1, h2⟩
    · omega
    · omega
    · exact h2
  by_cases hxl : x < l.length
  · have hz : 0 + Int.toNat x = x := by omega
    have hv := right_ok n (l.getD (0 + Int.toNat x) cn0)
    have hsn := allOK_snoc hxl ht
    rw [hz] at hv
    by_cases hc : cnOK n.toNat (l.getD x cn0)
    · have hc' : ((0 ≤ (l.getD x cn0).a ∧ (l.getD x cn0).a < n) ∧ (0 ≤ (l.getD x cn0).b ∧ (l.getD x cn0).b < n) ∧ (-9007199254740992 ≤ (l.getD x cn0).w ∧ (l.getD x cn0).w ≤ 9007199254740992)) := by
        rw [hn]; exact hc
      rw [decide_eq_true hc'] at hv
      rw [← hz] at hv
      (repeat' (first
    | (intro Q h; refine h ?_; clear h Q)
    | (refine bcase_mk (fun hb => ?_) (fun hb => ?_) <;> (try simp only [nS, nT, eq_self, reduceCtorEq] at hb) <;> (try (exfalso; (omega); done)))
    | refine seq_go ?_
    | refine And.intro (by first | omega | ((try simp only [wS]); omega) | rfl | decide) ?_
    | ((first | apply call0 (hv) ); (focus (iterate 2 (all_goals (repeat' (first | exact subL_nil | refine subL_cons ?_ ?_ | refine sub_agg ?_ | exact sub_refl_val _ _ ))))))
    | (apply next_sub (Subtype.mk (x + 1) _); (focus (apply le_mk [some 0]; (focus (iterate 2 (all_goals (repeat' (first | exact trivial | (intro Q h; refine h ?_; clear h Q) | refine And.intro ?_ ?_ | exact sub_sl rfl rfl rfl | exact sub_refl_val _ _ | exact row_same rfl rfl rfl | ((first | refine sub_int ?_ ); first | with_reducible rfl | omega | ((try simp only [wS]); omega) | rfl) ))))); (any_goals (apply okIx_mk; rfl)))); (all_goals (try (first | (simp only; omega)))))
    ))
      all_goals first | exact hsn hc | fail
    · have hc' : ¬ ((0 ≤ (l.getD x cn0).a ∧ (l.getD x cn0).a < n) ∧ (0 ≤ (l.getD x cn0).b ∧ (l.getD x cn0).b < n) ∧ (-9007199254740992 ≤ (l.getD x cn0).w ∧ (l.getD x cn0).w ≤ 9007199254740992)) := by
        rw [hn]; exact hc
      rw [decide_eq_false hc'] at hv
      rw [if_neg (fun h => hc (h _ (getD_mem l x cn0 hxl)))] at hw
      rw [← hz] at hv
      (repeat' (first
    | (intro Q h; refine h ?_; clear h Q)
    | (refine bcase_mk (fun hb => ?_) (fun hb => ?_) <;> (try simp only [nS, nT, eq_self, reduceCtorEq] at hb) <;> (try (exfalso; (omega); done)))
    | refine seq_go ?_
    | refine And.intro (by first | omega | ((try simp only [wS]); omega) | rfl | decide) ?_
    | ((first | apply call0 (hv) ); (focus (iterate 2 (all_goals (repeat' (first | exact subL_nil | refine subL_cons ?_ ?_ | refine sub_agg ?_ | exact sub_refl_val _ _ ))))))
    | (apply ret_mk [some 0]; (focus (iterate 2 (all_goals (repeat' (first | exact trivial | (intro Q h; refine h ?_; clear h Q) | refine And.intro ?_ ?_ | exact row_same rfl rfl rfl | ((first | refine sub_int ?_ ); first | with_reducible rfl | omega | ((try simp only [wS]); omega) | rfl) ))))); (any_goals (apply okIx_mk; rfl)))
    ))
  · have hxx : x = l.length := by omega
    subst hxx
    rw [List.take_length] at ht
    rw [if_pos ht] at hw
    (repeat' (first
    | (intro Q h; refine h ?_; clear h Q)
    | (refine bcase_mk (fun hb => ?_) (fun hb => ?_) <;> (try simp only [nS, nT, eq_self, reduceCtorEq] at hb) <;> (try (exfalso; (omega); done)))
    | refine seq_go ?_
    | (apply ret_mk [some 0]; (focus (iterate 2 (all_goals (repeat' (first | exact trivial | (intro Q h; refine h ?_; clear h Q) | refine And.intro ?_ ?_ | exact row_same rfl rfl rfl | ((first | refine sub_int ?_ ); first | with_reducible rfl | omega | ((try simp only [wS]); omega) | rfl) ))))); (any_goals (apply okIx_mk; rfl)))
    ))
theorem nan_ok (x : Int) : Runs Try.prog 94 [.val (.int .i64 x)] [] (Det (.sb false) []) := by
  refine Runs.mk tabOK Try.call94 Try.func94 rfl Try.ntmps94 Try.results94 rfl ?_
  (repeat' (first
    | (intro Q h; refine h ?_; clear h Q)
    | (apply ret_mk []; (focus (iterate 2 (all_goals (repeat' (first | exact trivial | refine And.intro ?_ ?_ | refine sub_sb ?_ ))))); (any_goals (apply okIx_mk; rfl)))
    ))
  all_goals (simp)
theorem less_ok (x y : Int) : Runs Try.prog 79 [.val (.int .i64 x), .val (.int .i64 y)] [] (Det (.sb (decide (x < y))) []) := by
  refine Runs.mk tabOK Try.call79 Try.func79 rfl Try.ntmps79 Try.results79 rfl ?_
  (repeat' (first
    | (intro Q h; refine h ?_; clear h Q)
    | (with_reducible refine bcase_false ?_)
    | ((first | apply call0 (nan_ok _) ); (focus ((iterate 2 (all_goals (repeat' (first | exact subL_nil | refine subL_cons ?_ ?_ | exact sub_refl_val _ _ )))); done)))
    | (apply ret_mk []; (focus (iterate 2 (all_goals (repeat' (first | exact trivial | refine And.intro ?_ ?_ | exact sub_sb rfl ))))); (any_goals (apply okIx_mk; rfl)))
    ))
/-- The lesser one. -/
def lsr (a b : Int) : Int := if b < a then b else a
theorem lesser_ok (a b : Int) : Runs Try.prog 72 [.val (.int .i64 a), .val (.int .i64 b)] [] (Det (.val (.int .i64 (lsr a b))) []) := by
  have h : (b < a ∧ lsr a b = b) ∨ (a ≤ b ∧ lsr a b = a) := by
    unfold lsr; split <;> omega
  generalize lsr a b = w at *
  have hl := less_ok b a
  refine Runs.mk tabOK Try.call72 Try.func72 rfl Try.ntmps72 Try.results72 rfl ?_
  (repeat' (first
    | (intro Q h; refine h ?_; clear h Q)
    | (refine bcase_mk (fun hb => ?_) (fun hb => ?_) <;> (try simp only [nS, nT, eq_self, reduceCtorEq] at hb) <;> (try (exfalso; (omega); done)))
    | refine seq_go ?_
    | ((first | apply call0 (hl) ); (focus ((iterate 2 (all_goals (repeat' (first | exact subL_nil | refine subL_cons ?_ ?_ | exact sub_refl_val _ _ )))); done)))
    | (apply ret_mk []; (focus (iterate 2 (all_goals (repeat' (first | exact trivial | refine And.intro ?_ ?_ | ((first | refine sub_int ?_ ); first | with_reducible rfl | omega | ((try simp only [wS]); omega) | rfl) ))))); (any_goals (apply okIx_mk; rfl)))
    ))
end Go.Vx.L53

/- Lemmas of a small executor for the model, and contracts of functions, used for the law that this claim proves. No condition. -/
import Derived.Test.YtblcjjlggfpehaaBC9
set_option linter.unusedSimpArgs false
set_option linter.unusedVariables false
set_option maxRecDepth 100000
namespace Go.Vx.L53
open Go Go.Proofs
theorem firstE_drop (l : List En) : ∀ x, x ≤ l.length → (∀ e ∈ l.take x, oneE e = 0) → firstE (l.drop x) = firstE l := by
  intro x
  induction x with
  | zero => intro _ _; rfl
  | succ x ih =>
    intro hx h
    have h1 := take_snoc l x en0 (by omega)
    have h2 := ih (by omega) fun e he => h e (by rw [h1]; simp [he])
    rw [← h2, drop_cons l x en0 (by omega), firstE, if_pos (h _ (by rw [h1]; simp))]
set_option maxHeartbeats 1000000 in
theorem check_ok (l : List En) (cap : Option Nat) (hl : l.length ≤ maxLen) :
    Runs Try.prog 26 [aL l cap] [gL l] (Det (.val (.int .i64 (lchk l))) [gL l]) := by
  have hmx : maxLen = 9223372036854775807 := by decide
  have hL : (512 < l.length ∧ lchk l = 6) ∨ (l.length ≤ 512 ∧ firstE l = 0 ∧ lchk l = ordL [] l) ∨ (l.length ≤ 512 ∧ firstE l ≠ 0 ∧ lchk l = firstE l) := by
    unfold lchk
    split
    · exact .inl ⟨by assumption, rfl⟩
    · split
      · exact .inr (.inl ⟨by omega, by assumption, rfl⟩)
      · exact .inr (.inr ⟨by omega, by assumption, rfl⟩)
  refine Runs.mk tabOK Try.call26 Try.func26 rfl Try.ntmps26 Try.results26 rfl ?_
  (repeat' (first
    | (intro Q h; refine h ?_; clear h Q)
    | (refine bcase_mk (fun hb => ?_) (fun hb => ?_) <;> (try simp only [nS, nT, eq_self, reduceCtorEq] at hb) <;> (try (exfalso; (omega); done)))
    | refine seq_go ?_
    | (apply ret_mk [some 0]; (focus (iterate 2 (all_goals (repeat' (first | exact trivial | (intro Q h; refine h ?_; clear h Q) | refine And.intro ?_ ?_ | exact row_same rfl rfl rfl | ((first | refine sub_int ?_ ); first | with_reducible rfl | omega | ((try simp only [wS]); omega) | rfl) ))))); (any_goals (apply okIx_mk; rfl)))
    ))
  refine loop_inv (σ := Nat) (fun x => x ≤ l.length ∧ firstE (l.drop x) = firstE l) (fun x => ⟨[(0, aL l cap), (9, aL l cap), (10, .val (.int .i64 l.length)), (11, .val (.int .i64 x))], [gL l]⟩) (fun x => l.length - x) (0) ?_ ?_ ?_
  · exact ⟨by omega, rfl⟩
  · (apply le_mk [some 0]; (focus (iterate 2 (all_goals (repeat' (first | exact trivial | (intro Q h; refine h ?_; clear h Q) | refine And.intro ?_ ?_ | exact sub_sl rfl rfl rfl | exact sub_refl_val _ _ | exact row_same rfl rfl rfl ))))); (any_goals (apply okIx_mk; rfl)))
  rintro x ⟨hx, ht⟩
  by_cases hxl : x < l.length
  · have hz : 0 + Int.toNat x = x := by omega
    have hd : firstE (l.drop x) = if oneE (l.getD (0 + Int.toNat x) en0) = 0 then firstE (l.drop (x + 1)) else oneE (l.getD (0 + Int.toNat x) en0) := by
      rw [drop_cons l x en0 hxl, firstE, hz]
    rw [hd] at ht
    have he := entry_ok (l.getD (0 + Int.toNat x) en0)
    generalize oneE (l.getD (0 + Int.toNat x) en0) = w at *
    by_cases hw : w = 0
    · rw [if_pos hw] at ht
      (repeat' (first
    | (intro Q h; refine h ?_; clear h Q)
    | (refine bcase_mk (fun hb => ?_) (fun hb => ?_) <;> (try simp only [nS, nT, eq_self, reduceCtorEq] at hb) <;> (try (exfalso; (omega); done)))
    | refine seq_go ?_
    | refine And.intro (by first | omega | ((try simp only [wS]); omega) | rfl | decide) ?_
    | ((first | apply call0 (he) ); (focus (iterate 2 (all_goals (repeat' (first | exact subL_nil | refine subL_cons ?_ ?_ | refine sub_agg ?_ | exact sub_refl_val _ _ ))))))
    | (apply next_sub (Subtype.mk (x + 1) _); (focus (apply le_mk [some 0]; (focus (iterate 2 (all_goals (repeat' (first | exact trivial | (intro Q h; refine h ?_; clear h Q) | refine And.intro ?_ ?_ | exact sub_sl rfl rfl rfl | exact sub_refl_val _ _ | exact row_same rfl rfl rfl | ((first | refine sub_int ?_ ); first | with_reducible rfl | omega | ((try simp only [wS]); omega) | rfl) ))))); (any_goals (apply okIx_mk; rfl)))); (all_goals (try (first | omega | (simp only; omega)))))
    ))
    · rw [if_neg hw] at ht
      (repeat' (first
    | (intro Q h; refine h ?_; clear h Q)
    | (refine bcase_mk (fun hb => ?_) (fun hb => ?_) <;> (try simp only [nS, nT, eq_self, reduceCtorEq] at hb) <;> (try (exfalso; (omega); done)))
    | refine seq_go ?_
    | refine And.intro (by first | omega | ((try simp only [wS]); omega) | rfl | decide) ?_
    | ((first | apply call0 (he) ); (focus (iterate 2 (all_goals (repeat' (first | exact subL_nil | refine subL_cons ?_ ?_ | refine sub_agg ?_ | exact sub_refl_val _ _ ))))))
    | (apply ret_mk [some 0]; (focus (iterate 2 (all_goals (repeat' (first | exact trivial | (intro Q h; refine h ?_; clear h Q) | refine And.intro ?_ ?_ | exact row_same rfl rfl rfl | ((first | refine sub_int ?_ ); first | with_reducible rfl | omega | ((try simp only [wS]); omega) | rfl) ))))); (any_goals (apply okIx_mk; rfl)))
    ))
  · have hxx : x = l.length := by omega
    subst hxx
    rw [List.drop_length] at ht
    have ht : 0 = firstE l := ht
    have ho := order_ok l cap (by omega)
    (repeat' (first
    | (intro Q h; refine h ?_; clear h Q)
    | (refine bcase_mk (fun hb => ?_) (fun hb => ?_) <;> (try simp only [nS, nT, eq_self, reduceCtorEq] at hb) <;> (try (exfalso; (omega); done)))
    | ((first | apply call1 (ho) ); (focus (iterate 2 (all_goals (repeat' (first | exact subL_nil | exact trivial | (intro Q h; refine h ?_; clear h Q) | refine And.intro ?_ ?_ | refine subL_cons ?_ ?_ | exact sub_sl rfl rfl rfl | exact row_same rfl rfl rfl ))))); (try (any_goals fail)))
    | (apply ret_mk [some 0]; (focus (iterate 2 (all_goals (repeat' (first | exact trivial | (intro Q h; refine h ?_; clear h Q) | refine And.intro ?_ ?_ | exact row_same rfl rfl rfl | ((first | refine sub_int ?_ ); first | with_reducible rfl | omega | ((try simp only [wS]); omega) | rfl) ))))); (any_goals (apply okIx_mk; rfl)))
    ))
set_option maxHeartbeats 1000000 in
theorem twice_ok (l : List En) (cap : Option Nat) (hl : l.length ≤ 512) (i : Nat) (hi : i < l.length) :
    Runs Try.prog 53 [aL l cap, .val (.int .i64 i)] [gL l] (Det (.sb (twB (l.take i) (l.getD i en0))) [gL l]) := by
  refine Runs.mk tabOK Try.call53 Try.func53 rfl Try.ntmps53 Try.results53 rfl ?_
  (repeat' (first
    | (intro Q h; refine h ?_; clear h Q)
    | refine seq_go ?_
    ))
  refine loop_inv (σ := Nat) (fun x => x ≤ i ∧ ∀ y ∈ l.take x, ¬ (trB (l.getD i en0) ∧ keyE y = keyE (l.getD i en0))) (fun x => ⟨[(0, aL l cap), (1, .val (.int .i64 i)), (5, .val (.int .i64 x))], [gL l]⟩) (fun x => i - x) (0) ?_ ?_ ?_
  · simp
  · (apply le_mk [some 0]; (focus (iterate 2 (all_goals (repeat' (first | exact trivial | (intro Q h; refine h ?_; clear h Q) | refine And.intro ?_ ?_ | exact sub_sl rfl rfl rfl | exact sub_refl_val _ _ | exact row_same rfl rfl rfl ))))); (any_goals (apply okIx_mk; rfl)))
  rintro x ⟨hx, ht⟩
  have hz : 0 + Int.toNat x = x := by omega
  have hzi : 0 + Int.toNat i = i := by omega
  have htr := travels_ok (l.getD (0 + Int.toNat i) en0)
  have hyes : x < i → (trB (l.getD (0 + Int.toNat i) en0) ∧ (l.getD (0 + Int.toNat x) en0).k = (l.getD (0 + Int.toNat i) en0).k ∧ (l.getD (0 + Int.toNat x) en0).nd = (l.getD (0 + Int.toNat i) en0).nd ∧ (l.getD (0 + Int.toNat x) en0).p = (l.getD (0 + Int.toNat i) en0).p ∧ (l.getD (0 + Int.toNat x) en0).m = (l.getD (0 + Int.toNat i) en0).m) → true = twB (l.take i) (l.getD i en0) := fun h1 h2 => by
    rw [hz, hzi] at h2
    obtain ⟨g1, g2, g3, g4, g5⟩ := h2
    unfold twB
    rw [decide_eq_true g1, Bool.true_and, Eq.comm, List.contains_iff_mem, mem_keysT]
    refine ⟨l.getD x en0, ?_, ?_, ?_⟩
    · have : l.getD x en0 = (l.take i).getD x en0 := by rw [List.getD_eq_getElem?_getD, List.getD_eq_getElem?_getD, List.getElem?_take_of_lt h1]
      rw [this]
      exact getD_mem _ _ _ (by rw [List.length_take]; omega)
    · unfold trB at *; rw [g2]; exact g1
    · unfold keyE; rw [g2, g3, g4, g5]
  have hno : x < i → ¬ (trB (l.getD (0 + Int.toNat i) en0) ∧ (l.getD (0 + Int.toNat x) en0).k = (l.getD (0 + Int.toNat i) en0).k ∧ (l.getD (0 + Int.toNat x) en0).nd = (l.getD (0 + Int.toNat i) en0).nd ∧ (l.getD (0 + Int.toNat x) en0).p = (l.getD (0 + Int.toNat i) en0).p ∧ (l.getD (0 + Int.toNat x) en0).m = (l.getD (0 + Int.toNat i) en0).m) → x + 1 ≤ i ∧ ∀ y ∈ l.take (x + 1), ¬ (trB (l.getD i en0) ∧ keyE y = keyE (l.getD i en0)) := fun h1 h2 => by
    rw [hz, hzi] at h2
    refine ⟨h1, fun y hy => ?_⟩
    rw [take_snoc l x en0 (by omega), List.mem_append, List.mem_singleton] at hy
    rcases hy with hy | rfl
    · exact ht y hy
    · rintro ⟨g1, g2⟩
      simp only [keyE, List.cons.injEq, and_true] at g2
      exact h2 ⟨g1, g2⟩
  have hend : ¬ x < i → false = twB (l.take i) (l.getD i en0) := fun h1 => by
    have : x = i := by omega
    subst this
    rw [Eq.comm, Bool.eq_false_iff]
    unfold twB
    intro h
    rw [Bool.and_eq_true, decide_eq_true_eq, List.contains_iff_mem, mem_keysT] at h
    obtain ⟨g1, y, g2, _, g3⟩ := h
    exact ht y g2 ⟨g1, g3⟩
  (repeat' (first
    | (intro Q h; refine h ?_; clear h Q)
    | (refine bcase_mk (fun hb => ?_) (fun hb => ?_) <;> (try simp only [nS, nT, eq_self, reduceCtorEq] at hb) <;> (try (exfalso; (omega); done)))
    | refine draw_mk (by decide +kernel) ?_
    | refine seq_go ?_
    | refine And.intro (by first | omega | ((try simp only [wS]); omega) | rfl | decide) ?_
    | ((first | apply calld0 (htr)); (focus (iterate 2 (all_goals (repeat' (first | exact subL_nil | refine subL_cons ?_ ?_ | refine sub_agg ?_ | exact sub_refl_val _ _ ))))))
    | (apply ret_mk [some 0]; (focus (iterate 2 (all_goals (repeat' (first | exact trivial | (intro Q h; refine h ?_; clear h Q) | refine And.intro ?_ ?_ | exact row_same rfl rfl rfl | refine sub_sbl ?_ ))))); (any_goals (apply okIx_mk; rfl)))
    | (apply next_sub (Subtype.mk (x + 1) _); (focus (apply le_mk [some 0]; (focus (iterate 2 (all_goals (repeat' (first | exact trivial | (intro Q h; refine h ?_; clear h Q) | refine And.intro ?_ ?_ | exact sub_sl rfl rfl rfl | exact sub_refl_val _ _ | exact row_same rfl rfl rfl | ((first | refine sub_int ?_ ); first | with_reducible rfl | omega | ((try simp only [wS]); omega) | rfl) ))))); (any_goals (apply okIx_mk; rfl)))); (all_goals (try (first | (simp only; omega)))))
    ))
  all_goals first
    | (exact hyes (by omega) ⟨‹_›, ‹_›, ‹_›, ‹_›, ‹_›⟩; done)
    | (exact (hno (by omega) (fun ⟨h1, h2, h3, h4, h5⟩ => by contradiction)).2; done)
    | (exact hend (by omega); done)
    | fail
theorem lastN_back (l : List En) (n : Int) (i : Nat) (hi : i ≤ l.length) : ∀ x, x ≤ i → (∀ y, x ≤ y → y < i → (l.getD y en0).nd ≠ n) → lastN (l.take i) n = lastN (l.take x) n := by
  induction i with
  | zero => intro x hx _; rw [show x = 0 by omega]
  | succ i ih =>
    intro x hx h
    by_cases e : x = i + 1
    · rw [e]
    · rw [take_snoc l i en0 (by omega), lastN_snoc, if_neg (h i (by omega) (by omega))]
      exact ih (by omega) x (by omega) fun y h1 h2 => h y h1 (by omega)
set_option maxHeartbeats 1000000 in
theorem back_ok (l : List En) (cap : Option Nat) (hl : l.length ≤ 512) (i : Nat) (hi : i < l.length) :
    Runs Try.prog 54 [aL l cap, .val (.int .i64 i)] [gL l] (Det (.sb (bkB (l.take i) (l.getD i en0))) [gL l]) := by
  refine Runs.mk tabOK Try.call54 Try.func54 rfl Try.ntmps54 Try.results54 rfl ?_
  (repeat' (first
    | (intro Q h; refine h ?_; clear h Q)
    | refine seq_go ?_
    ))
  refine loop_inv (σ := Nat) (fun x => x ≤ i ∧ ∀ y, x ≤ y → y < i → (l.getD y en0).nd ≠ (l.getD i en0).nd) (fun x => ⟨[(0, aL l cap), (1, .val (.int .i64 i)), (5, .val (.int .i64 ((x : Int) - 1)))], [gL l]⟩) (fun x => x) (i) ?_ ?_ ?_
  · exact ⟨by omega, fun y h1 h2 => by omega⟩
  · (apply le_mk [some 0]; (focus (iterate 2 (all_goals (repeat' (first | exact trivial | (intro Q h; refine h ?_; clear h Q) | refine And.intro ?_ ?_ | exact sub_sl rfl rfl rfl | exact sub_refl_val _ _ | exact row_same rfl rfl rfl | ((first | refine sub_int ?_ ); first | with_reducible rfl | omega | ((try simp only [wS]); omega) | rfl) ))))); (any_goals (apply okIx_mk; rfl)))
  rintro x ⟨hx, ht⟩
  have hzi : 0 + Int.toNat i = i := by omega
  have hlb := lastN_back l (l.getD i en0).nd i (by omega) x hx ht
  by_cases hx0 : x = 0
  · subst hx0
    have hend : false = bkB (l.take i) (l.getD i en0) := by unfold bkB; rw [hlb]; rfl
    (repeat' (first
    | (intro Q h; refine h ?_; clear h Q)
    | (refine bcase_mk (fun hb => ?_) (fun hb => ?_) <;> (try simp only [nS, nT, eq_self, reduceCtorEq] at hb) <;> (try (exfalso; (omega); done)))
    | refine seq_go ?_
    | (apply ret_mk [some 0]; (focus (iterate 2 (all_goals (repeat' (first | exact trivial | (intro Q h; refine h ?_; clear h Q) | refine And.intro ?_ ?_ | exact row_same rfl rfl rfl | (refine And.left (b := True) ⟨?_, True.intro⟩; assumption) | refine sub_sbl ?_ ))))); (any_goals (apply okIx_mk; rfl)))
    ))
    all_goals fail
  · obtain ⟨z, rfl⟩ : ∃ z, x = z + 1 := ⟨x - 1, by omega⟩
    rw [show (((z + 1 : Nat) : Int) - 1) = (z : Int) by omega]
    have hz : 0 + Int.toNat z = z := by omega
    rw [take_snoc l z en0 (by omega), lastN_snoc] at hlb
    have hyes : (l.getD (0 + Int.toNat z) en0).nd = (l.getD (0 + Int.toNat i) en0).nd → bkB (l.take i) (l.getD i en0) = decide ((l.getD (0 + Int.toNat z) en0).k ≠ 3 ∧ (l.getD (0 + Int.toNat i) en0).c < (l.getD (0 + Int.toNat z) en0).c) := fun h => by
      rw [hz, hzi] at *
      rw [if_pos h] at hlb
      unfold bkB
      rw [hlb]
    have hno : ¬ (l.getD (0 + Int.toNat z) en0).nd = (l.getD (0 + Int.toNat i) en0).nd → ∀ y, z ≤ y → y < i → (l.getD y en0).nd ≠ (l.getD i en0).nd := fun h y h1 h2 => by
      rw [hz, hzi] at h
      by_cases e : y = z
      · rw [e]; exact h
      · exact ht y (by omega) h2
    (repeat' (first
    | (intro Q h; refine h ?_; clear h Q)
    | (refine bcase_mk (fun hb => ?_) (fun hb => ?_) <;> (try simp only [nS, nT, eq_self, reduceCtorEq] at hb) <;> (try (exfalso; (omega); done)))
    | refine draw_mk (by decide +kernel) ?_
    | refine seq_go ?_
    | refine And.intro (by first | omega | ((try simp only [wS]); omega) | rfl | decide) ?_
    | (apply ret_mk [some 0]; (focus (iterate 2 (all_goals (repeat' (first | exact trivial | (intro Q h; refine h ?_; clear h Q) | refine And.intro ?_ ?_ | exact row_same rfl rfl rfl | refine sub_sbl ?_ ))))); (any_goals (apply okIx_mk; rfl)))
    | (apply next_sub (Subtype.mk z _); (focus (apply le_mk [some 0]; (focus (iterate 2 (all_goals (repeat' (first | exact trivial | (intro Q h; refine h ?_; clear h Q) | refine And.intro ?_ ?_ | exact sub_sl rfl rfl rfl | exact sub_refl_val _ _ | exact row_same rfl rfl rfl | ((first | refine sub_int ?_ ); first | with_reducible rfl | omega | ((try simp only [wS]); omega) | rfl) ))))); (any_goals (apply okIx_mk; rfl)))); (all_goals (try (first | (simp only; omega)))))
    ))
    all_goals first
      | (rw [hyes ‹_›, Bool.eq_iff_iff, decide_eq_true_eq, decide_eq_true_eq]; exact ⟨fun h => ⟨‹_›, h⟩, fun h => h.2⟩)
      | (rw [hyes ‹_›, Eq.comm, decide_eq_true_eq]; exact ⟨‹_›, ‹_›⟩)
      | (rw [hyes ‹_›, Eq.comm, decide_eq_false_iff_not]; exact fun h => absurd h.2 (Int.not_lt.2 ‹_›))
      | (rw [hyes ‹_›, Eq.comm, decide_eq_false_iff_not]; exact fun h => h.1 ‹_›)
      | (exact hno ‹_›; done)
      | fail
set_option maxHeartbeats 1000000 in
theorem rcheck_ok (l : List En) (cap : Option Nat) (hl : l.length ≤ maxLen) :
    Runs Try.prog 31 [aL l cap] [gL l] (Det (.val (.int .i64 (lchk l))) [gL l]) := by
  have hmx : maxLen = 9223372036854775807 := by decide
  have hL : (512 < l.length ∧ lchk l = 6) ∨ (l.length ≤ 512 ∧ firstE l = 0 ∧ lchk l = ordL [] l) ∨ (l.length ≤ 512 ∧ firstE l ≠ 0 ∧ lchk l = firstE l) := by
    unfold lchk
    split
    · exact .inl ⟨by assumption, rfl⟩
    · split
      · exact .inr (.inl ⟨by omega, by assumption, rfl⟩)
      · exact .inr (.inr ⟨by omega, by assumption, rfl⟩)
  refine Runs.mk tabOK Try.call31 Try.func31 rfl Try.ntmps31 Try.results31 rfl ?_
  (repeat' (first
    | (intro Q h; refine h ?_; clear h Q)
    | (refine bcase_mk (fun hb => ?_) (fun hb => ?_) <;> (try simp only [nS, nT, eq_self, reduceCtorEq] at hb) <;> (try (exfalso; (omega); done)))
    | refine seq_go ?_
    | (apply ret_mk [some 0]; (focus (iterate 2 (all_goals (repeat' (first | exact trivial | (intro Q h; refine h ?_; clear h Q) | refine And.intro ?_ ?_ | exact row_same rfl rfl rfl | ((first | refine sub_int ?_ ); first | with_reducible rfl | omega | ((try simp only [wS]); omega) | rfl) ))))); (any_goals (apply okIx_mk; rfl)))
    ))
  refine loop_inv (σ := Nat) (fun x => x ≤ l.length ∧ firstE (l.drop x) = firstE l) (fun x => ⟨[(0, aL l cap), (3, .val (.int .i64 x))], [gL l]⟩) (fun x => l.length - x) (0) ?_ ?_ ?_
  · exact ⟨by omega, rfl⟩
  · (apply le_mk [some 0]; (focus (iterate 2 (all_goals (repeat' (first | exact trivial | (intro Q h; refine h ?_; clear h Q) | refine And.intro ?_ ?_ | exact sub_sl rfl rfl rfl | exact sub_refl_val _ _ | exact row_same rfl rfl rfl ))))); (any_goals (apply okIx_mk; rfl)))
  rintro x ⟨hx, ht⟩
  by_cases hxl : x < l.length
  · have hz : 0 + Int.toNat x = x := by omega
    have hd : firstE (l.drop x) = if oneE (l.getD (0 + Int.toNat x) en0) = 0 then firstE (l.drop (x + 1)) else oneE (l.getD (0 + Int.toNat x) en0) := by
      rw [drop_cons l x en0 hxl, firstE, hz]
    rw [hd] at ht
    have he := rone_ok (l.getD (0 + Int.toNat x) en0)
    generalize oneE (l.getD (0 + Int.toNat x) en0) = w at *
    by_cases hw : w = 0
    · rw [if_pos hw] at ht
      (repeat' (first
    | (intro Q h; refine h ?_; clear h Q)
    | (refine bcase_mk (fun hb => ?_) (fun hb => ?_) <;> (try simp only [nS, nT, eq_self, reduceCtorEq] at hb) <;> (try (exfalso; (omega); done)))
    | refine seq_go ?_
    | refine And.intro (by first | omega | ((try simp only [wS]); omega) | rfl | decide) ?_
    | ((first | apply call0 (he) ); (focus (iterate 2 (all_goals (repeat' (first | exact subL_nil | refine subL_cons ?_ ?_ | refine sub_agg ?_ | exact sub_refl_val _ _ ))))))
    | (apply next_sub (Subtype.mk (x + 1) _); (focus (apply le_mk [some 0]; (focus (iterate 2 (all_goals (repeat' (first | exact trivial | (intro Q h; refine h ?_; clear h Q) | refine And.intro ?_ ?_ | exact sub_sl rfl rfl rfl | exact row_same rfl rfl rfl | ((first | refine sub_int ?_ ); first | with_reducible rfl | omega | ((try simp only [wS]); omega) | rfl) ))))); (any_goals (apply okIx_mk; rfl)))); (all_goals (try (first | omega | (simp only; omega)))))
    ))
    · rw [if_neg hw] at ht
      (repeat' (first
    | (intro Q h; refine h ?_; clear h Q)
    | (refine bcase_mk (fun hb => ?_) (fun hb => ?_) <;> (try simp only [nS, nT, eq_self, reduceCtorEq] at hb) <;> (try (exfalso; (omega); done)))
    | refine seq_go ?_
    | refine And.intro (by first | omega | ((try simp only [wS]); omega) | rfl | decide) ?_
    | ((first | apply call0 (he) ); (focus (iterate 2 (all_goals (repeat' (first | exact subL_nil | refine subL_cons ?_ ?_ | refine sub_agg ?_ | exact sub_refl_val _ _ ))))))
    | (apply ret_mk [some 0]; (focus (iterate 2 (all_goals (repeat' (first | exact trivial | (intro Q h; refine h ?_; clear h Q) | refine And.intro ?_ ?_ | exact row_same rfl rfl rfl | ((first | refine sub_int ?_ ); first | with_reducible rfl | omega | ((try simp only [wS]); omega) | rfl) ))))); (any_goals (apply okIx_mk; rfl)))
    ))
  · have hxx : x = l.length := by omega
    subst hxx
    rw [List.drop_length] at ht
    have ht : 0 = firstE l := ht
    (repeat' (first
    | (intro Q h; refine h ?_; clear h Q)
    | (refine bcase_mk (fun hb => ?_) (fun hb => ?_) <;> (try simp only [nS, nT, eq_self, reduceCtorEq] at hb) <;> (try (exfalso; (omega); done)))
    | refine seq_go ?_
    ))
    refine loop_inv (σ := Nat) (fun x => x ≤ l.length ∧ ordL (l.take x) (l.drop x) = ordL [] l) (fun x => ⟨[(0, aL l cap), (5, .val (.int .i64 x))], [gL l]⟩) (fun x => l.length - x) (0) ?_ ?_ ?_
    · exact ⟨by omega, rfl⟩
    · (apply le_mk [some 0]; (focus (iterate 2 (all_goals (repeat' (first | exact trivial | (intro Q h; refine h ?_; clear h Q) | refine And.intro ?_ ?_ | exact sub_sl rfl rfl rfl | exact sub_refl_val _ _ | exact row_same rfl rfl rfl ))))); (any_goals (apply okIx_mk; rfl)))
    rintro x ⟨hx, hto⟩
    by_cases hxl : x < l.length
    · have hts := take_snoc l x en0 hxl
      have hO : ordL (l.take x) (l.drop x) = if twB (l.take x) (l.getD x en0) then 10 else if bkB (l.take x) (l.getD x en0) then 12 else ordL (l.take (x + 1)) (l.drop (x + 1)) := by
        rw [drop_cons l x en0 hxl, ordL, ← hts]
      rw [hO] at hto
      have h1 := twice_ok l cap (by omega) x hxl
      have h2 := back_ok l cap (by omega) x hxl
      generalize twB (l.take x) (l.getD x en0) = b1 at *
      generalize bkB (l.take x) (l.getD x en0) = b2 at *
      cases b1
      · cases b2
        · simp only [Bool.false_eq_true, if_false] at hto
          (repeat' (first
    | (intro Q h; refine h ?_; clear h Q)
    | (with_reducible refine bcase_false ?_)
    | (refine bcase_mk (fun hb => ?_) (fun hb => ?_) <;> (try simp only [nS, nT, eq_self, reduceCtorEq] at hb) <;> (try (exfalso; (omega); done)))
    | refine seq_go ?_
    | ((first | apply call1 (h1) ); (focus (iterate 2 (all_goals (repeat' (first | exact subL_nil | exact trivial | (intro Q h; refine h ?_; clear h Q) | refine And.intro ?_ ?_ | refine subL_cons ?_ ?_ | exact sub_sl rfl rfl rfl | exact sub_refl_val _ _ | exact row_same rfl rfl rfl ))))); (try (any_goals fail)))
    | ((first | apply call1 (h2) ); (focus (iterate 2 (all_goals (repeat' (first | exact subL_nil | exact trivial | (intro Q h; refine h ?_; clear h Q) | refine And.intro ?_ ?_ | refine subL_cons ?_ ?_ | exact sub_sl rfl rfl rfl | exact sub_refl_val _ _ | exact row_same rfl rfl rfl ))))); (try (any_goals fail)))
    | (apply next_sub (Subtype.mk (x + 1) _); (focus (apply le_mk [some 0]; (focus (iterate 2 (all_goals (repeat' (first | exact trivial | (intro Q h; refine h ?_; clear h Q) | refine And.intro ?_ ?_ | exact sub_sl rfl rfl rfl | exact row_same rfl rfl rfl | ((first | refine sub_int ?_ ); first | with_reducible rfl | omega | ((try simp only [wS]); omega) | rfl) ))))); (any_goals (apply okIx_mk; rfl)))); (all_goals (try (first | omega | (simp only; omega)))))
    ))
        · simp only [Bool.false_eq_true, if_false, if_true] at hto
          (repeat' (first
    | (intro Q h; refine h ?_; clear h Q)
    | (with_reducible refine bcase_true ?_)
    | (with_reducible refine bcase_false ?_)
    | (refine bcase_mk (fun hb => ?_) (fun hb => ?_) <;> (try simp only [nS, nT, eq_self, reduceCtorEq] at hb) <;> (try (exfalso; (omega); done)))
    | refine seq_go ?_
    | ((first | apply call1 (h1) ); (focus (iterate 2 (all_goals (repeat' (first | exact subL_nil | exact trivial | (intro Q h; refine h ?_; clear h Q) | refine And.intro ?_ ?_ | refine subL_cons ?_ ?_ | exact sub_sl rfl rfl rfl | exact sub_refl_val _ _ | exact row_same rfl rfl rfl ))))); (try (any_goals fail)))
    | ((first | apply call1 (h2) ); (focus (iterate 2 (all_goals (repeat' (first | exact subL_nil | exact trivial | (intro Q h; refine h ?_; clear h Q) | refine And.intro ?_ ?_ | refine subL_cons ?_ ?_ | exact sub_sl rfl rfl rfl | exact sub_refl_val _ _ | exact row_same rfl rfl rfl ))))); (try (any_goals fail)))
    | (apply ret_mk [some 0]; (focus (iterate 2 (all_goals (repeat' (first | exact trivial | (intro Q h; refine h ?_; clear h Q) | refine And.intro ?_ ?_ | exact row_same rfl rfl rfl | ((first | refine sub_int ?_ ); first | with_reducible rfl | omega | ((try simp only [wS]); omega) | rfl) ))))); (any_goals (apply okIx_mk; rfl)))
    ))
      · simp only [if_true] at hto
        (repeat' (first
    | (intro Q h; refine h ?_; clear h Q)
    | (with_reducible refine bcase_true ?_)
    | (refine bcase_mk (fun hb => ?_) (fun hb => ?_) <;> (try simp only [nS, nT, eq_self, reduceCtorEq] at hb) <;> (try (exfalso; (omega); done)))
    | refine seq_go ?_
    | ((first | apply call1 (h1) ); (focus (iterate 2 (all_goals (repeat' (first | exact subL_nil | exact trivial | (intro Q h; refine h ?_; clear h Q) | refine And.intro ?_ ?_ | refine subL_cons ?_ ?_ | exact sub_sl rfl rfl rfl | exact sub_refl_val _ _ | exact row_same rfl rfl rfl ))))); (try (any_goals fail)))
    | (apply ret_mk [some 0]; (focus (iterate 2 (all_goals (repeat' (first | exact trivial | (intro Q h; refine h ?_; clear h Q) | refine And.intro ?_ ?_ | exact row_same rfl rfl rfl | ((first | refine sub_int ?_ ); first | with_reducible rfl | omega | ((try simp only [wS]); omega) | rfl) ))))); (any_goals (apply okIx_mk; rfl)))
    ))
    · have hxx : x = l.length := by omega
      subst hxx
      rw [List.drop_length] at hto
      have hto : 0 = ordL [] l := hto
      (repeat' (first
    | (intro Q h; refine h ?_; clear h Q)
    | (refine bcase_mk (fun hb => ?_) (fun hb => ?_) <;> (try simp only [nS, nT, eq_self, reduceCtorEq] at hb) <;> (try (exfalso; (omega); done)))
    | refine seq_go ?_
    | (apply ret_mk [some 0]; (focus (iterate 2 (all_goals (repeat' (first | exact trivial | (intro Q h; refine h ?_; clear h Q) | refine And.intro ?_ ?_ | exact row_same rfl rfl rfl | ((first | refine sub_int ?_ ); first | with_reducible rfl | omega | ((try simp only [wS]); omega) | rfl) ))))); (any_goals (apply okIx_mk; rfl)))
    ))
end Go.Vx.L53

/- Lemmas of a small executor for the model, and contracts of functions, used for the law that this claim proves. No condition. -/
import Derived.Test.YtblcjjlggfpehaaBC8
set_option linter.unusedSimpArgs false
set_option linter.unusedVariables false
set_option maxRecDepth 100000
namespace Go.Vx.L53
open Go Go.Proofs
theorem lastD_of {pre : List En} {n : Int} (h : (nodesL pre).contains [n] = true) : lastN pre n = some (lastD pre ([n].headD 0)) := by
  rw [cont_nodesL, Option.isSome_iff_exists] at h
  obtain ⟨b, h⟩ := h
  rw [lastD, List.headD_cons, h]; rfl
set_option maxHeartbeats 1000000 in
theorem order_ok (l : List En) (cap : Option Nat) (hl : l.length ≤ 512) :
    Runs Try.prog 50 [aL l cap] [gL l] (Det (.val (.int .i64 (ordL [] l))) [gL l]) := by
  refine Runs.mk tabOK Try.call50 Try.func50 rfl Try.ntmps50 Try.results50 rfl ?_
  (repeat' (first
    | (intro Q h; refine h ?_; clear h Q)
    | refine seq_go ?_
    ))
  refine loop_inv (σ := Nat) (fun x => x ≤ l.length ∧ ordL (l.take x) (l.drop x) = ordL [] l) (fun x => ⟨[(3, .map 1), (4, .map 2), (12, aL l cap), (13, .val (.int .i64 l.length)), (14, .val (.int .i64 x))], [gL l, seenB (l.take x), lastB (l.take x)]⟩) (fun x => l.length - x) (0) ?_ ?_ ?_
  · simp
  · have x : Nat := 0
    have hts : True := True.intro
    (apply le_mk [some 0, some 1, some 2]; (focus (iterate 2 (all_goals (repeat' (first | exact sub_map rfl | refine map_mk ?_ ?_ | exact trivial | (intro Q h; refine h ?_; clear h Q) | refine And.intro ?_ ?_ | exact sub_sl rfl rfl rfl | exact sub_refl_val _ _ | exact row_same rfl rfl rfl ))))); (any_goals (apply okIx_mk; rfl)))
    all_goals (simp [keysT, nodesL])
  rintro x ⟨hx, ht⟩
  by_cases hxl : x < l.length
  · have hz : 0 + Int.toNat x = x := by omega
    have hts := take_snoc l x en0 hxl
    have hO : ordL (l.take x) (l.drop x) = if twB (l.take x) (l.getD x en0) then 10 else if bkB (l.take x) (l.getD x en0) then 12 else ordL (l.take (x + 1)) (l.drop (x + 1)) := by
      rw [drop_cons l x en0 hxl, ordL, ← hts]
    rw [← ht]
    rw [← hz] at hO hts
    rw [show l.take (0 + Int.toNat x + 1) = l.take (x + 1) by rw [hz]] at hO hts
    rw [show l.drop (0 + Int.toNat x + 1) = l.drop (x + 1) by rw [hz]] at hO
    rw [show l.take (0 + Int.toNat x) = l.take x by rw [hz]] at hO hts
    rw [show l.drop (0 + Int.toNat x) = l.drop x by rw [hz]] at hO
    have hw1 : ∀ q : Bool, (keysT (l.take x)).contains (keyE (l.getD (0 + Int.toNat x) en0)) = q → trB (l.getD (0 + Int.toNat x) en0) → twB (l.take x) (l.getD (0 + Int.toNat x) en0) = q := fun q h1 h2 => by
      unfold twB; rw [h1, decide_eq_true h2, Bool.true_and]
    have hw2 : ¬ trB (l.getD (0 + Int.toNat x) en0) → twB (l.take x) (l.getD (0 + Int.toNat x) en0) = false := fun h2 => by
      unfold twB; rw [decide_eq_false h2, Bool.false_and]
    have hk1 : (nodesL (l.take x)).contains [(l.getD (0 + Int.toNat x) en0).nd] = true → bkB (l.take x) (l.getD (0 + Int.toNat x) en0) = decide ((lastD (l.take x) ([(l.getD (0 + Int.toNat x) en0).nd].headD 0)).k ≠ 3 ∧ (l.getD (0 + Int.toNat x) en0).c < (lastD (l.take x) ([(l.getD (0 + Int.toNat x) en0).nd].headD 0)).c) := fun h => by
      unfold bkB; rw [lastD_of h]
    have hk0 : (nodesL (l.take x)).contains [(l.getD (0 + Int.toNat x) en0).nd] = false → bkB (l.take x) (l.getD (0 + Int.toNat x) en0) = false := fun h => by
      rw [cont_nodesL] at h
      unfold bkB; rw [Option.isSome_eq_false_iff, Option.isNone_iff_eq_none] at h; rw [h]
    (repeat' (first
    | (intro Q h; refine h ?_; clear h Q)
    | (with_reducible refine bcase_true ?_)
    | (with_reducible refine bcase_false ?_)
    | (refine bcase_mk (fun hb => ?_) (fun hb => ?_) <;> (try simp only [nS, nT, eq_self, reduceCtorEq] at hb))
    | refine seq_go ?_
    | refine And.intro (by first | omega | ((try simp only [wS]); omega) | rfl | decide) ?_
    | (apply ret_mk [some 0]; (focus (iterate 2 (all_goals (repeat' (first | exact trivial | (intro Q h; refine h ?_; clear h Q) | refine And.intro ?_ ?_ | exact row_same rfl rfl rfl | ((first | refine sub_int ?_ ); first | with_reducible rfl | omega | ((try simp only [wS]); omega) | rfl) | refine sub_int ?_ ))))); (any_goals (apply okIx_mk; rfl)))
    | (apply next_sub (Subtype.mk (x + 1) _); (focus (apply le_mk [some 0, some 1, some 2]; (focus (iterate 2 (all_goals (repeat' (first | exact lastB_upd (e := l.getD (0 + Int.toNat x) en0) hts | exact seenB_same (e := l.getD (0 + Int.toNat x) en0) hts (not_or.2 ⟨by assumption, by assumption⟩) | exact seenB_upd (e := l.getD (0 + Int.toNat x) en0) hts (.inl (by assumption)) rfl (by assumption) | exact seenB_upd (e := l.getD (0 + Int.toNat x) en0) hts (.inr (by assumption)) rfl (by assumption) | exact sub_map rfl | exact trivial | (intro Q h; refine h ?_; clear h Q) | refine And.intro ?_ ?_ | exact sub_sl rfl rfl rfl | exact sub_refl_val _ _ | exact row_same rfl rfl rfl | ((first | refine sub_int ?_ ); first | with_reducible rfl | omega | ((try simp only [wS]); omega) | rfl) ))))); (any_goals (apply okIx_mk; rfl)))); (all_goals (try (first | (simp only; omega)))))
    ))
    all_goals first
      | (rw [hO, if_pos (hw1 true ‹_› (.inl ‹_›))]; done)
      | (rw [hO, if_pos (hw1 true ‹_› (.inr ‹_›))]; done)
      | skip
    all_goals
      have htw : twB (l.take x) (l.getD (0 + Int.toNat x) en0) = false := by
        first
        | exact hw1 false ‹_› (.inl ‹_›)
        | exact hw1 false ‹_› (.inr ‹_›)
        | exact hw2 (not_or.2 ⟨‹_›, ‹_›⟩)
      rw [hO, htw, if_neg Bool.false_ne_true]
      first
      | (rw [hk1 ‹_›, if_pos (decide_eq_true ⟨‹_›, ‹_›⟩)]; done)
      | (rw [hk0 ‹_›, if_neg Bool.false_ne_true]; done)
      | (rw [hk1 ‹_›, if_neg (fun h => absurd (of_decide_eq_true h) (fun h => by first | exact absurd h.2 (Int.not_lt.2 ‹_›) | exact h.1 ‹_›))]; done)
      | fail
  · have hxx : x = l.length := by omega
    subst hxx
    rw [List.drop_length] at ht
    (repeat' (first
    | (intro Q h; refine h ?_; clear h Q)
    | (with_reducible refine bcase_true ?_)
    | (with_reducible refine bcase_false ?_)
    | (refine bcase_mk (fun hb => ?_) (fun hb => ?_) <;> (try simp only [nS, nT, eq_self, reduceCtorEq] at hb))
    | refine seq_go ?_
    | refine And.intro (by first | omega | ((try simp only [wS]); omega) | rfl | decide) ?_
    | (apply ret_mk [some 0]; (focus (iterate 2 (all_goals (repeat' (first | exact trivial | (intro Q h; refine h ?_; clear h Q) | refine And.intro ?_ ?_ | exact row_same rfl rfl rfl | ((first | refine sub_int ?_ ); first | with_reducible rfl | omega | ((try simp only [wS]); omega) | rfl) | (refine And.left (b := True) ⟨?_, True.intro⟩; assumption) | refine sub_int ?_ ))))); (any_goals (apply okIx_mk; rfl)))
    | omega))
end Go.Vx.L53

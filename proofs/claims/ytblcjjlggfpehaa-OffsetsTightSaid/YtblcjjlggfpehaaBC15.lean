/- Lemmas of a small executor for the model, and contracts of functions, used for the law that this claim proves. No condition. -/
import Derived.Test.YtblcjjlggfpehaaBC14
set_option linter.unusedSimpArgs false
set_option linter.unusedVariables false
set_option maxRecDepth 100000
namespace Go.Vx.L53
open Go Go.Proofs
theorem cwrap {n : Int} (h1 : -9223372036854775808 ≤ n) (h2 : n ≤ 9223372036854775807) : IntKind.i64.wrap n = n := wrapIn h1 h2
theorem between_ok (l : List En) (cap : Option Nat) (h0 : lchk l = 0) (k i : Nat) (hk : k < l.length) (hi : i < l.length) (tol : Int) (ht : -4611686018427387904 ≤ tol ∧ tol ≤ 4611686018427387904) :
    Runs Try.prog 29 [aL l cap, .val (.int .i64 k), .val (.int .i64 i), .val (.int .i64 tol)] [gL l]
      (if elOK (spanF l k i) tol then Det (.tup [.sl 1 3 0 2 (some 2), .val (.int .i64 0)]) [gL l, cB true (btw k i (spanF l k i) tol)] else Det (.tup [.sl 1 3 0 0 none, .val (.int .i64 3)]) [gL l, cB true []]) := by
  have hl := (lchk_zero h0).1
  obtain ⟨_, _, _, g1, g2⟩ := lchk_rg h0 hk
  obtain ⟨_, _, _, g3, g4⟩ := lchk_rg h0 hi
  have hzk : 0 + Int.toNat k = k := by omega
  have hzi : 0 + Int.toNat i = i := by omega
  have hs : (l.getD (0 + Int.toNat k) en0).k = 3 ∧ spanF l k i = (l.getD (0 + Int.toNat i) en0).c - (l.getD (0 + Int.toNat k) en0).c - (l.getD (0 + Int.toNat k) en0).v ∨ ¬ (l.getD (0 + Int.toNat k) en0).k = 3 ∧ spanF l k i = (l.getD (0 + Int.toNat i) en0).c - (l.getD (0 + Int.toNat k) en0).c := by
    rw [hzk, hzi]
    unfold spanF
    split
    · exact .inl ⟨by assumption, rfl⟩
    · exact .inr ⟨by assumption, rfl⟩
  rw [← hzk] at g1 g2
  rw [← hzi] at g3 g4
  have w1 : IntKind.i64.wrap ((l.getD (0 + Int.toNat i) en0).c - (l.getD (0 + Int.toNat k) en0).c) = (l.getD (0 + Int.toNat i) en0).c - (l.getD (0 + Int.toNat k) en0).c := cwrap (by omega) (by omega)
  have w2 : IntKind.i64.wrap ((l.getD (0 + Int.toNat i) en0).c - (l.getD (0 + Int.toNat k) en0).c - (l.getD (0 + Int.toNat k) en0).v) = (l.getD (0 + Int.toNat i) en0).c - (l.getD (0 + Int.toNat k) en0).c - (l.getD (0 + Int.toNat k) en0).v := cwrap (by omega) (by omega)
  generalize hS : spanF l k i = S at *
  have he := elapsed_ok S tol (by omega) ht
  unfold elA at he
  by_cases hE : elOK S tol
  · rw [if_pos hE] at he ⊢
    have b1 := lo_bd' hE
    have b2 := hi_bd hE
    obtain ⟨⟨_, b3⟩, _⟩ := hE
    unfold btw
    generalize elLo S tol = lo at *
    generalize elHi S tol = hi at *
    refine Runs.mk tabOK Try.call29 Try.func29 rfl Try.ntmps29 Try.results29 rfl ?_
    (repeat' (first
    | (intro Q h; refine h ?_; clear h Q)
    | (refine bcase_mk (fun hb => ?_) (fun hb => ?_) <;> (try simp only [nS, nT, eq_self, reduceCtorEq] at hb) <;> (try (exfalso; (omega); done)))
    | refine draw_mk (by decide +kernel) ?_
    | refine seq_go ?_
    | refine And.intro (by first | omega | ((try simp only [wS]); omega) | rfl | decide) ?_
    | ((first | apply call0 (he) ); (focus ((iterate 2 (all_goals (repeat' (first | exact subL_nil | refine subL_cons ?_ ?_ | exact sub_refl_val _ _ | ((first | refine sub_int ?_ ); first | with_reducible rfl | omega | ((try simp only [wS]); omega) | rfl) | refine sub_int ?_ )))); done)))
    | (apply ret_mk [some 0, some 1]; (focus (iterate 2 (all_goals (repeat' (first | (apply row_lit rfl; (focus (refine cells_succ (cells_succ ?_ ?_) ?_))) | exact subL_nil | exact trivial | (intro Q h; refine h ?_; clear h Q) | refine And.intro ?_ ?_ | refine subL_cons ?_ ?_ | refine sub_tup ?_ | exact sub_sl rfl rfl rfl | exact sub_refl_val _ _ | exact row_same rfl rfl rfl | refine cells_succ ?_ ?_ | exact cell0 | refine sub_int ?_ ))))); (any_goals (apply okIx_mk; rfl)))
    ))
    · rw [w1, w2]
      (repeat' (first
    | (intro Q h; refine h ?_; clear h Q)
    | (refine bcase_mk (fun hb => ?_) (fun hb => ?_) <;> (try simp only [nS, nT, eq_self, reduceCtorEq] at hb) <;> (try (exfalso; (omega); done)))
    | refine seq_go ?_
    | ((first | apply call0 (he) ); (focus ((iterate 2 (all_goals (repeat' (first | exact subL_nil | refine subL_cons ?_ ?_ | exact sub_refl_val _ _ | ((first | refine sub_int ?_ ); first | with_reducible rfl | omega | ((try simp only [wS]); omega) | rfl) )))); done)))
    | (apply ret_mk [some 0, some 1]; (focus (iterate 2 (all_goals (repeat' (first | (apply row_lit rfl; (focus (refine cells_succ (cells_succ ?_ ?_) ?_))) | exact subL_nil | exact trivial | (intro Q h; refine h ?_; clear h Q) | refine And.intro ?_ ?_ | refine subL_cons ?_ ?_ | refine sub_tup ?_ | exact sub_sl rfl rfl rfl | exact sub_refl_val _ _ | exact row_same rfl rfl rfl | refine cells_succ ?_ ?_ | exact cell0 | refine sub_int ?_ ))))); (any_goals (apply okIx_mk; rfl)))
    ))
      all_goals first
        | exact cwrap (by omega) (by omega)
        | exact (cwrap (by omega) (by omega)).trans (Int.zero_sub _)
        | fail
    all_goals first
      | exact cwrap (by omega) (by omega)
      | exact (cwrap (by omega) (by omega)).trans (Int.zero_sub _)
      | fail
  · rw [if_neg hE] at he ⊢
    refine Runs.mk tabOK Try.call29 Try.func29 rfl Try.ntmps29 Try.results29 rfl ?_
    (repeat' (first
    | (intro Q h; refine h ?_; clear h Q)
    | (refine bcase_mk (fun hb => ?_) (fun hb => ?_) <;> (try simp only [nS, nT, eq_self, reduceCtorEq] at hb) <;> (try (exfalso; (omega); done)))
    | refine draw_mk (by decide +kernel) ?_
    | refine seq_go ?_
    | refine And.intro (by first | omega | ((try simp only [wS]); omega) | rfl | decide) ?_
    | ((first | apply call0 (he) ); (focus ((iterate 2 (all_goals (repeat' (first | exact subL_nil | refine subL_cons ?_ ?_ | exact sub_refl_val _ _ | ((first | refine sub_int ?_ ); first | with_reducible rfl | omega | ((try simp only [wS]); omega) | rfl) | refine sub_int ?_ )))); done)))
    | (apply ret_mk [some 0, none]; (focus (iterate 2 (all_goals (repeat' (first | exact subL_nil | exact trivial | (intro Q h; refine h ?_; clear h Q) | refine And.intro ?_ ?_ | refine subL_cons ?_ ?_ | refine sub_tup ?_ | exact sub_refl_val _ _ | exact row_same rfl rfl rfl | exact sub_nil rfl | ((first | refine virt_mk ?_ ); first | with_reducible rfl | omega | ((try simp only [wS]); omega) | rfl) ))))); (any_goals (apply okIx_mk; rfl)))
    ))
    rw [w1, w2]
    (repeat' (first
    | (intro Q h; refine h ?_; clear h Q)
    | (refine bcase_mk (fun hb => ?_) (fun hb => ?_) <;> (try simp only [nS, nT, eq_self, reduceCtorEq] at hb) <;> (try (exfalso; (omega); done)))
    | refine seq_go ?_
    | ((first | apply call0 (he) ); (focus ((iterate 2 (all_goals (repeat' (first | exact subL_nil | refine subL_cons ?_ ?_ | exact sub_refl_val _ _ | ((first | refine sub_int ?_ ); first | with_reducible rfl | omega | ((try simp only [wS]); omega) | rfl) )))); done)))
    | (apply ret_mk [some 0, none]; (focus (iterate 2 (all_goals (repeat' (first | exact subL_nil | exact trivial | (intro Q h; refine h ?_; clear h Q) | refine And.intro ?_ ?_ | refine subL_cons ?_ ?_ | refine sub_tup ?_ | exact sub_refl_val _ _ | exact row_same rfl rfl rfl | exact sub_nil rfl | ((first | refine virt_mk ?_ ); first | with_reducible rfl | omega | ((try simp only [wS]); omega) | rfl) ))))); (any_goals (apply okIx_mk; rfl)))
    ))
theorem lastI_back (l : List En) (n : Int) (i : Nat) (hi : i ≤ l.length) : ∀ x, x ≤ i → (∀ y, x ≤ y → y < i → (l.getD y en0).nd ≠ n) → lastI (l.take i) n = lastI (l.take x) n := by
  induction i with
  | zero => intro x hx _; rw [show x = 0 by omega]
  | succ i ih =>
    intro x hx h
    by_cases e : x = i + 1
    · rw [e]
    · rw [take_snoc l i en0 (by omega), lastI_snoc, if_neg (h i (by omega) (by omega))]
      exact ih (by omega) x (by omega) fun y h1 h2 => h y h1 (by omega)
set_option maxHeartbeats 1000000 in
theorem before_ok (l : List En) (cap : Option Nat) (hl : l.length ≤ 512) (i : Nat) (hi : i < l.length) :
    Runs Try.prog 34 [aL l cap, .val (.int .i64 i)] [gL l] (Det (.tup [.val (.int .i64 ((prevI l i).getD 0 : Nat)), .sb (prevI l i).isSome]) [gL l]) := by
  refine Runs.mk tabOK Try.call34 Try.func34 rfl Try.ntmps34 Try.results34 rfl ?_
  (repeat' (first
    | (intro Q h; refine h ?_; clear h Q)
    | refine seq_go ?_
    ))
  refine loop_inv (σ := Nat) (fun x => x ≤ i ∧ ∀ y, x ≤ y → y < i → (l.getD y en0).nd ≠ (l.getD i en0).nd) (fun x => ⟨[(0, aL l cap), (1, .val (.int .i64 i)), (6, .val (.int .i64 ((x : Int) - 1)))], [gL l]⟩) (fun x => x) (i) ?_ ?_ ?_
  · exact ⟨by omega, fun y h1 h2 => by omega⟩
  · (apply le_mk [some 0]; (focus (iterate 2 (all_goals (repeat' (first | exact trivial | (intro Q h; refine h ?_; clear h Q) | refine And.intro ?_ ?_ | exact sub_sl rfl rfl rfl | exact sub_refl_val _ _ | exact row_same rfl rfl rfl | ((first | refine sub_int ?_ ); first | with_reducible rfl | omega | ((try simp only [wS]); omega) | rfl) ))))); (any_goals (apply okIx_mk; rfl)))
  rintro x ⟨hx, ht⟩
  have hzi : 0 + Int.toNat i = i := by omega
  have hlb : prevI l i = _ := lastI_back l (l.getD i en0).nd i (by omega) x hx ht
  by_cases hx0 : x = 0
  · subst hx0
    have hend : prevI l i = none := by rw [hlb]; rfl
    rw [hend]
    (repeat' (first
    | (intro Q h; refine h ?_; clear h Q)
    | (refine bcase_mk (fun hb => ?_) (fun hb => ?_) <;> (try simp only [nS, nT, eq_self, reduceCtorEq] at hb) <;> (try (exfalso; (omega); done)))
    | refine seq_go ?_
    | (apply ret_mk [some 0]; (focus (iterate 2 (all_goals (repeat' (first | exact subL_nil | exact trivial | (intro Q h; refine h ?_; clear h Q) | refine And.intro ?_ ?_ | refine subL_cons ?_ ?_ | refine sub_tup ?_ | exact sub_refl_val _ _ | exact sub_sbl rfl | exact row_same rfl rfl rfl ))))); (any_goals (apply okIx_mk; rfl)))
    ))
  · obtain ⟨z, rfl⟩ : ∃ z, x = z + 1 := ⟨x - 1, by omega⟩
    rw [show (((z + 1 : Nat) : Int) - 1) = (z : Int) by omega]
    have hz : 0 + Int.toNat z = z := by omega
    rw [take_snoc l z en0 (by omega), lastI_snoc] at hlb
    have hyes : (l.getD (0 + Int.toNat z) en0).nd = (l.getD (0 + Int.toNat i) en0).nd → prevI l i = some z := fun h => by
      rw [hz, hzi] at h
      rw [hlb, if_pos h, List.length_take, Nat.min_eq_left (by omega)]
    have hno : ¬ (l.getD (0 + Int.toNat z) en0).nd = (l.getD (0 + Int.toNat i) en0).nd → ∀ y, z ≤ y → y < i → (l.getD y en0).nd ≠ (l.getD i en0).nd := fun h y h1 h2 => by
      rw [hz, hzi] at h
      by_cases e : y = z
      · rw [e]; exact h
      · exact ht y (by omega) h2
    (repeat' (first
    | (intro Q h; refine h ?_; clear h Q)
    | (refine bcase_mk (fun hb => ?_) (fun hb => ?_) <;> (try simp only [nS, nT, eq_self, reduceCtorEq] at hb) <;> (try (exfalso; (omega); done)))
    | refine draw_mk (by decide +kernel) ?_
    | refine seq_go ?_
    | refine And.intro (by first | omega | ((try simp only [wS]); omega) | rfl | decide) ?_
    | (apply ret_mk [some 0]; (focus (iterate 2 (all_goals (repeat' (first | exact subL_nil | exact trivial | (intro Q h; refine h ?_; clear h Q) | refine And.intro ?_ ?_ | refine subL_cons ?_ ?_ | refine sub_tup ?_ | exact row_same rfl rfl rfl | refine sub_int ?_ | refine sub_sbl ?_ ))))); (any_goals (apply okIx_mk; rfl)))
    | (apply next_sub (Subtype.mk z _); (focus (apply le_mk [some 0]; (focus (iterate 2 (all_goals (repeat' (first | exact trivial | (intro Q h; refine h ?_; clear h Q) | refine And.intro ?_ ?_ | exact sub_sl rfl rfl rfl | exact sub_refl_val _ _ | exact row_same rfl rfl rfl | ((first | refine sub_int ?_ ); first | with_reducible rfl | omega | ((try simp only [wS]); omega) | rfl) ))))); (any_goals (apply okIx_mk; rfl)))); (all_goals (try (first | (simp only; omega)))))
    ))
    all_goals first
      | (rw [hyes ‹_›]; done)
      | (rw [hyes ‹_›]; rfl)
      | (exact hno ‹_›; done)
      | fail
end Go.Vx.L53

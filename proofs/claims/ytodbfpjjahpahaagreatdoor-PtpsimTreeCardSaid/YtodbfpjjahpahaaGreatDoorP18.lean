/- Lemmas of a small executor for the model, and contracts of functions, used for the law that this claim proves. No condition. -/
import Derived.Test.YtodbfpjjahpahaaGreatDoorP17
set_option linter.unusedSimpArgs false
set_option linter.unusedVariables false
set_option maxRecDepth 100000
namespace Go.Vx.L58
open Go Go.Proofs
/-- Is there an edge between two nodes, among the first? -/
def fdB (s : Scn) (a b : Int) : Nat → Bool
 | 0 => false
 | k + 1 => fdB s a b k || decide (((s.l.getD k ed0).a = a ∧ (s.l.getD k ed0).b = b) ∨ ((s.l.getD k ed0).b = a ∧ (s.l.getD k ed0).a = b))
theorem fdB_of {s : Scn} {a b : Int} {j : Nat} (h : ((s.l.getD j ed0).a = a ∧ (s.l.getD j ed0).b = b) ∨ ((s.l.getD j ed0).b = a ∧ (s.l.getD j ed0).a = b)) : ∀ k, j < k → fdB s a b k = true
 | 0, hk => by omega
 | k + 1, hk => by
  rw [fdB]
  by_cases e : j = k
  ·subst e; rw [decide_eq_true h, Bool.or_true]
  ·rw [fdB_of h k (by omega), Bool.true_or]
theorem AdjS.fd {s : Scn} {a b : Int} (h : AdjS s a b) : fdB s a b s.l.length = true ∧ fdB s b a s.l.length = true := by
 obtain ⟨j, hj, h⟩ := h
 refine ⟨fdB_of h _ hj, fdB_of ?_ _ hj⟩
 rcases h with ⟨h1, h2⟩ | ⟨h1, h2⟩
 ·exact .inr ⟨h2, h1⟩
 ·exact .inl ⟨h2, h1⟩
set_option maxHeartbeats 8000000 in
theorem ptpsimTree (s : Scn) (ok : SOk s) (v : Int) : Runs Tryz.prog 7 [scA s, .val (.int .i64 v)] (scB s) (Det (.sb true) (scB s)) := by
 have hmx : maxLen = 9223372036854775807 := by decide
 have haw := awake_ok
 have hfw := few_ok s
 cases hf : fewB s
 ·rw [hf] at hfw
  refine Runs.mk tabOK Tryz.call7 Tryz.func7 rfl Tryz.ntmps7 Tryz.results7 rfl ?_
  (repeat' (first
  | (intro Q h; refine h ?_; clear h Q)
  | (refine bcase_mk (fun hb => ?_) (fun hb => ?_) <;> (try simp only [nS, nT, eq_self, reduceCtorEq] at hb) <;> (try (exfalso; fail; done)))
  | refine seq_go ?_
  | ((first | apply call_detx [some 0, some 1, some 2, some 3, some 4, some 5, some 6, some 7] (hfw) ); (focus ((iterate 2 (all_goals (repeat' (first | exact rows_same rfl rfl rfl rfl | exact os_same rfl rfl rfl rfl | exact subL_nil | exact trivial | (intro Q h; refine h ?_; clear h Q) | refine And.intro ?_ ?_ | refine subL_cons ?_ ?_ | refine sub_agg ?_ | exact sub_sl rfl rfl rfl | exact sub_refl_val _ _ | exact row_same rfl rfl rfl )))); done)); (any_goals (first | (apply nodup_mk; rfl) )))
  | ((first | apply call0 (haw) ); (focus (iterate 2 (all_goals (repeat' (first | exact subL_nil ))))))
  | (apply ret_mk [some 0, some 1, some 2, some 3, some 4, some 5, some 6, some 7]; (focus (iterate 2 (all_goals (repeat' (first | exact rows_same rfl rfl rfl rfl | exact os_same rfl rfl rfl rfl | exact trivial | (intro Q h; refine h ?_; clear h Q) | refine And.intro ?_ ?_ | exact sub_sb rfl | exact row_same rfl rfl rfl ))))); (any_goals (apply okIx_mk; rfl)))
  ))
 rw [hf] at hfw
 obtain ⟨r1, r2, r3⟩ := route_ok s ok v
 by_cases hc : ckS s = 0
 rotate_left
 ·have r1 := r1 hc
  generalize ckS s = c at *
  refine Runs.mk tabOK Tryz.call7 Tryz.func7 rfl Tryz.ntmps7 Tryz.results7 rfl ?_
  (repeat' (first
  | (intro Q h; refine h ?_; clear h Q)
  | (refine bcase_mk (fun hb => ?_) (fun hb => ?_) <;> (try simp only [nS, nT, eq_self, reduceCtorEq] at hb) <;> (try (exfalso; (first | omega ); done)))
  | refine seq_go ?_
  | ((first | apply call_detx [some 0, some 1, some 2, some 3, some 4, some 5, some 6, some 7] (hfw) ); (focus ((iterate 2 (all_goals (repeat' (first | exact rows_same rfl rfl rfl rfl | exact os_same rfl rfl rfl rfl | exact subL_nil | exact trivial | (intro Q h; refine h ?_; clear h Q) | refine And.intro ?_ ?_ | refine subL_cons ?_ ?_ | refine sub_agg ?_ | exact sub_sl rfl rfl rfl | exact sub_refl_val _ _ | exact row_same rfl rfl rfl )))); done)); (any_goals (first | (apply nodup_mk; rfl) )))
  | ((first | apply call_detx [some 0, some 1, some 2, some 3, some 4, some 5, some 6, some 7] (r1) ); (focus ((iterate 2 (all_goals (repeat' (first | exact rows_same rfl rfl rfl rfl | exact os_same rfl rfl rfl rfl | exact subL_nil | exact trivial | (intro Q h; refine h ?_; clear h Q) | refine And.intro ?_ ?_ | refine subL_cons ?_ ?_ | refine sub_agg ?_ | exact sub_sl rfl rfl rfl | exact sub_refl_val _ _ | exact row_same rfl rfl rfl )))); done)); (any_goals (first | (apply nodup_mk; rfl) )))
  | ((first | apply call0 (haw) ); (focus (iterate 2 (all_goals (repeat' (first | exact subL_nil ))))))
  | (apply ret_mk [some 0, some 1, some 2, some 3, some 4, some 5, some 6, some 7]; (focus (iterate 2 (all_goals (repeat' (first | exact rows_same rfl rfl rfl rfl | exact os_same rfl rfl rfl rfl | exact trivial | (intro Q h; refine h ?_; clear h Q) | refine And.intro ?_ ?_ | exact sub_sb rfl | exact row_same rfl rfl rfl ))))); (any_goals (apply okIx_mk; rfl)))
  ))
 by_cases hv : 0 ≤ v ∧ v < s.ns.length
 rotate_left
 ·have r2 := r2 hc hv
  refine Runs.mk tabOK Tryz.call7 Tryz.func7 rfl Tryz.ntmps7 Tryz.results7 rfl ?_
  (repeat' (first
  | (intro Q h; refine h ?_; clear h Q)
  | (refine bcase_mk (fun hb => ?_) (fun hb => ?_) <;> (try simp only [nS, nT, eq_self, reduceCtorEq] at hb) <;> (try (exfalso; (first | omega ); done)))
  | refine seq_go ?_
  | ((first | apply call_detx [some 0, some 1, some 2, some 3, some 4, some 5, some 6, some 7] (hfw) ); (focus ((iterate 2 (all_goals (repeat' (first | exact rows_same rfl rfl rfl rfl | exact os_same rfl rfl rfl rfl | exact subL_nil | exact trivial | (intro Q h; refine h ?_; clear h Q) | refine And.intro ?_ ?_ | refine subL_cons ?_ ?_ | refine sub_agg ?_ | exact sub_sl rfl rfl rfl | exact sub_refl_val _ _ | exact row_same rfl rfl rfl )))); done)); (any_goals (first | (apply nodup_mk; rfl) )))
  | ((first | apply call_detx [some 0, some 1, some 2, some 3, some 4, some 5, some 6, some 7] (r2) ); (focus ((iterate 2 (all_goals (repeat' (first | exact rows_same rfl rfl rfl rfl | exact os_same rfl rfl rfl rfl | exact subL_nil | exact trivial | (intro Q h; refine h ?_; clear h Q) | refine And.intro ?_ ?_ | refine subL_cons ?_ ?_ | refine sub_agg ?_ | exact sub_sl rfl rfl rfl | exact sub_refl_val _ _ | exact row_same rfl rfl rfl )))); done)); (any_goals (first | (apply nodup_mk; rfl) )))
  | ((first | apply call0 (haw) ); (focus (iterate 2 (all_goals (repeat' (first | exact subL_nil ))))))
  | (apply ret_mk [some 0, some 1, some 2, some 3, some 4, some 5, some 6, some 7]; (focus (iterate 2 (all_goals (repeat' (first | exact rows_same rfl rfl rfl rfl | exact os_same rfl rfl rfl rfl | exact trivial | (intro Q h; refine h ?_; clear h Q) | refine And.intro ?_ ?_ | exact sub_sb rfl | exact row_same rfl rfl rfl ))))); (any_goals (apply okIx_mk; rfl)))
  ))
 have r3 := r3 hc hv
 obtain ⟨v, rfl⟩ := Int.eq_ofNat_of_zero_le hv.1
 obtain ⟨hck, ⟨L1, L2, L3, L4, L5⟩, _, _⟩ := ckS_parts hc
 obtain ⟨hN, hn24, hl1, _⟩ := sc_parts ok hc
 have hex := (expected_ok s.n s.l s.c0 ok.hl s.ns s.c1 ok.hn ok.hw).2 hck
 obtain ⟨t1, t2, t3, t4⟩ := tree_law ok hc (v := v) (by omega)
 have hUl := clF_len (trS s) (s.ns.length - 1) v
 rw [Int.toNat_natCast] at r3
 have hEl := exL_len s.ns s.l s.ns.length
 generalize clF (trS s) (s.ns.length - 1) v = U at *
 generalize exL s.ns s.l s.ns.length = E at *
 have hRl : U.reverse.length = U.length := List.length_reverse
 have q1 : U.reverse.getD 0 0 = (E.getD v ch0).m := by rw [rev_getD _ _ (by omega), ← t2]; rfl
 have q2 : U.reverse.getD (U.length - 1) 0 = (v : Int) := by rw [rev_getD _ _ (by omega), ← t3, Nat.sub_self]
 have q3 : ∀ j, 1 ≤ j → j < U.length → fdB s (U.reverse.getD (j - 1) 0) (U.reverse.getD j 0) s.l.length = true := fun j h1 h2 => by
  have h := t4 (U.length - 1 - j) (by omega)
  rw [show U.length - 1 - j + 1 = U.length - 1 - (j - 1) by omega, ← rev_getD _ _ (by omega), ← rev_getD _ _ (by omega)] at h
  exact h.fd.2
 have hs : ∀ a b k, fdB s a b (k + 1) = (fdB s a b k || decide (((s.l.getD k ed0).a = a ∧ (s.l.getD k ed0).b = b) ∨ ((s.l.getD k ed0).b = a ∧ (s.l.getD k ed0).a = b))) := fun _ _ _ => rfl
 have hs0 : ∀ a b, fdB s a b 0 = false := fun _ _ => rfl
 rw [← hRl] at t1 q2 q3 hUl
 generalize U.reverse = R at *
 generalize fdB s = FD at *
 have hz : 0 + Int.toNat (v : Int) = v := by omega
 have z1 : (E.getD (0 + Int.toNat (v : Int)) ch0).s = (R.length : Int) - 1 := by rw [hz]; omega
 have z1w : IntKind.i64.wrap ((E.getD (0 + Int.toNat (v : Int)) ch0).s + 1) = (R.length : Int) := by rw [IntKind.wrap_i64, z1]; omega
 have z2 : R.getD (0 + Int.toNat 0) 0 = (E.getD (0 + Int.toNat (v : Int)) ch0).m := by rw [hz]; exact q1
 have z3 : R.getD (0 + (IntKind.i64.wrap ((R.length : Int) - 1)).toNat) 0 = (v : Int) := by rw [← q2]; congr 1; rw [IntKind.wrap_i64]; omega
 refine Runs.mk tabOK Tryz.call7 Tryz.func7 rfl Tryz.ntmps7 Tryz.results7 rfl ?_
 (repeat' (first
  | (intro Q h; refine h ?_; clear h Q)
  | (refine bcase_mk (fun hb => ?_) (fun hb => ?_) <;> (try simp only [nS, nT, eq_self, reduceCtorEq] at hb) <;> (try (exfalso; (first | omega ); done)))
  | refine draw_mk (by decide +kernel) ?_
  | refine seq_go ?_
  | refine And.intro (by first | omega | ((try simp only [wS]); omega) | rfl | decide) ?_
  | ((first | apply call_detx [some 0, some 1, some 2, some 3, some 4, some 5, some 6, some 7] (hfw) ); (focus ((iterate 2 (all_goals (repeat' (first | exact rows_same rfl rfl rfl rfl | exact os_same rfl rfl rfl rfl | exact subL_nil | exact trivial | (intro Q h; refine h ?_; clear h Q) | refine And.intro ?_ ?_ | refine subL_cons ?_ ?_ | refine sub_agg ?_ | exact sub_sl rfl rfl rfl | exact sub_refl_val _ _ | exact row_same rfl rfl rfl )))); done)); (any_goals (first | (apply nodup_mk; rfl) )))
  | ((first | apply call_detx [some 0, some 1, some 2, some 3, some 4, some 5, some 6, some 7] (r3) ); (focus ((iterate 2 (all_goals (repeat' (first | exact rows_same rfl rfl rfl rfl | exact os_same rfl rfl rfl rfl | exact subL_nil | exact trivial | (intro Q h; refine h ?_; clear h Q) | refine And.intro ?_ ?_ | refine subL_cons ?_ ?_ | refine sub_agg ?_ | exact sub_sl rfl rfl rfl | exact sub_refl_val _ _ | exact row_same rfl rfl rfl )))); done)); (any_goals (first | (apply nodup_mk; rfl) )))
  | ((first | apply call_detx [some 0, some 1] (hex) ); (focus ((iterate 2 (all_goals (repeat' (first | exact subL_nil | exact trivial | (intro Q h; refine h ?_; clear h Q) | refine And.intro ?_ ?_ | refine subL_cons ?_ ?_ | refine sub_agg ?_ | exact sub_sl rfl rfl rfl | exact sub_refl_val _ _ | exact row_same rfl rfl rfl )))); done)); (any_goals (first | (apply nodup_mk; rfl) )))
  ))
 refine loop_inv (σ := Nat) (fun x => 1 ≤ x ∧ x ≤ R.length) (fun x => ⟨[(2, .ptr 8 8 0 0), (5, .sl 9 1 0 R.length none), (8, .val (.int .i64 x))], [gB s.l, ndB s.ns, osB s.os s.hd, osR s.os s.hd, iB false s.dn, iB false s.up, blB s.tr, iB false s.st, .var (scV s), .arr true 3 1 R.length (intF R)]⟩) (fun x => R.length - x) (1) ?_ ?_ ?_
 ·omega
 ·(apply le_mk [some 0, some 1, some 2, some 3, some 4, some 5, some 6, some 7, some 8, some 9]; (focus (iterate 2 (all_goals (repeat' (first | exact rows_same rfl rfl rfl rfl | exact os_same rfl rfl rfl rfl | exact subL_nil | exact trivial | (intro Q h; refine h ?_; clear h Q) | refine And.intro ?_ ?_ | refine subL_cons ?_ ?_ | refine var_mk ?_ | exact sub_ptr rfl rfl | exact sub_sl rfl rfl rfl | exact sub_refl_val _ _ | exact row_same rfl rfl rfl | exact row_ren rfl rfl rfl ))))); (any_goals (apply okIx_mk; rfl)))
 rintro i ⟨hi1, hi⟩
 by_cases hil : i < R.length
 ·have hzi : 0 + Int.toNat (i : Int) = i := by omega
  have hwi : 0 + (IntKind.i64.wrap ((i : Int) - 1)).toNat = i - 1 := by rw [IntKind.wrap_i64]; omega
  have hq := q3 i hi1 hil
  rw [← hwi] at hq
  have hqi : R.getD i 0 = R.getD (0 + Int.toNat (i : Int)) 0 := by rw [hzi]
  rw [hqi] at hq
  have hs := hs (R.getD (0 + (IntKind.i64.wrap ((i : Int) - 1)).toNat) 0) (R.getD (0 + Int.toNat (i : Int)) 0)
  have hs0 := hs0 (R.getD (0 + (IntKind.i64.wrap ((i : Int) - 1)).toNat) 0) (R.getD (0 + Int.toNat (i : Int)) 0)
  generalize FD (R.getD (0 + (IntKind.i64.wrap ((i : Int) - 1)).toNat) 0) (R.getD (0 + Int.toNat (i : Int)) 0) = F at *
  (repeat' (first
  | (intro Q h; refine h ?_; clear h Q)
  | (refine bcase_mk (fun hb => ?_) (fun hb => ?_) <;> (try simp only [nS, nT, eq_self, reduceCtorEq] at hb) <;> (try (exfalso; (first | omega ); done)))
  | refine seq_go ?_
  ))
  refine loop_inv (σ := Nat) (fun x => x ≤ s.l.length) (fun x => ⟨[(2, .ptr 8 8 0 0), (5, .sl 9 1 0 R.length none), (8, .val (.int .i64 i)), (9, .sb (F x)), (84, .sl 0 4 0 s.l.length s.c0), (85, .val (.int .i64 s.l.length)), (86, .val (.int .i64 x))], [gB s.l, ndB s.ns, osB s.os s.hd, osR s.os s.hd, iB false s.dn, iB false s.up, blB s.tr, iB false s.st, .var (scV s), .arr true 3 1 R.length (intF R)]⟩) (fun x => s.l.length - x) (0) ?_ ?_ ?_
  ·omega
  ·rw [hs0]
   (apply le_mk [some 0, some 1, some 2, some 3, some 4, some 5, some 6, some 7, some 8, some 9]; (focus (iterate 2 (all_goals (repeat' (first | exact rows_same rfl rfl rfl rfl | exact os_same rfl rfl rfl rfl | exact subL_nil | exact trivial | (intro Q h; refine h ?_; clear h Q) | refine And.intro ?_ ?_ | refine subL_cons ?_ ?_ | refine var_mk ?_ | exact sub_ptr rfl rfl | exact sub_sl rfl rfl rfl | exact sub_refl_val _ _ | exact sub_sbl rfl | exact row_same rfl rfl rfl ))))); (any_goals (apply okIx_mk; rfl)))
  rintro k hk
  by_cases hkl : k < s.l.length
  ·have hzk : 0 + Int.toNat (k : Int) = k := by omega
   have hsk : F (k + 1) = (F k || decide (((s.l.getD (0 + Int.toNat (k : Int)) ed0).a = R.getD (0 + (IntKind.i64.wrap ((i : Int) - 1)).toNat) 0 ∧ (s.l.getD (0 + Int.toNat (k : Int)) ed0).b = R.getD (0 + Int.toNat (i : Int)) 0) ∨ ((s.l.getD (0 + Int.toNat (k : Int)) ed0).b = R.getD (0 + (IntKind.i64.wrap ((i : Int) - 1)).toNat) 0 ∧ (s.l.getD (0 + Int.toNat (k : Int)) ed0).a = R.getD (0 + Int.toNat (i : Int)) 0))) := by rw [hzk]; exact hs k
   cases hh : F k
   ·rw [hh, Bool.false_or] at hsk
    by_cases hm : ((s.l.getD (0 + Int.toNat (k : Int)) ed0).a = R.getD (0 + (IntKind.i64.wrap ((i : Int) - 1)).toNat) 0 ∧ (s.l.getD (0 + Int.toNat (k : Int)) ed0).b = R.getD (0 + Int.toNat (i : Int)) 0) ∨ ((s.l.getD (0 + Int.toNat (k : Int)) ed0).b = R.getD (0 + (IntKind.i64.wrap ((i : Int) - 1)).toNat) 0 ∧ (s.l.getD (0 + Int.toNat (k : Int)) ed0).a = R.getD (0 + Int.toNat (i : Int)) 0)
    ·rw [decide_eq_true hm] at hsk
     (repeat' (first
  | (intro Q h; refine h ?_; clear h Q)
  | (with_reducible refine bcase_false ?_)
  | (refine bcase_mk (fun hb => ?_) (fun hb => ?_) <;> (try simp only [nS, nT, eq_self, reduceCtorEq] at hb) <;> (try (exfalso; (first | omega ); done)))
  | refine draw_mk (by decide +kernel) ?_
  | refine seq_go ?_
  | refine And.intro (by first | omega | ((try simp only [wS]); omega) | rfl | decide) ?_
  | (apply next_sub (Subtype.mk (k + 1) (by first | omega | (simp only; omega))); (focus ((simp only [hsk]); apply le_mk [some 0, some 1, some 2, some 3, some 4, some 5, some 6, some 7, some 8, some 9]; (focus (iterate 2 (all_goals (repeat' (first | exact rows_same rfl rfl rfl rfl | exact os_same rfl rfl rfl rfl | exact subL_nil | exact trivial | (intro Q h; refine h ?_; clear h Q) | refine And.intro ?_ ?_ | refine subL_cons ?_ ?_ | refine var_mk ?_ | exact sub_ptr rfl rfl | exact sub_sl rfl rfl rfl | exact sub_refl_val _ _ | exact sub_sbl rfl | exact row_same rfl rfl rfl | ((first | refine sub_int ?_ ); first | with_reducible rfl | omega | ((try simp only [wS]); omega) | rfl) ))))); (any_goals (apply okIx_mk; rfl)))); (all_goals (try (first | (simp only; omega)))))
  ))
    ·rw [decide_eq_false hm] at hsk
     (repeat' (first
  | (intro Q h; refine h ?_; clear h Q)
  | (with_reducible refine bcase_false ?_)
  | (refine bcase_mk (fun hb => ?_) (fun hb => ?_) <;> (try simp only [nS, nT, eq_self, reduceCtorEq] at hb) <;> (try (exfalso; (first | omega ); done)))
  | refine draw_mk (by decide +kernel) ?_
  | refine seq_go ?_
  | refine And.intro (by first | omega | ((try simp only [wS]); omega) | rfl | decide) ?_
  | (apply next_sub (Subtype.mk (k + 1) (by first | omega | (simp only; omega))); (focus ((simp only [hsk]); apply le_mk [some 0, some 1, some 2, some 3, some 4, some 5, some 6, some 7, some 8, some 9]; (focus (iterate 2 (all_goals (repeat' (first | exact rows_same rfl rfl rfl rfl | exact os_same rfl rfl rfl rfl | exact subL_nil | exact trivial | (intro Q h; refine h ?_; clear h Q) | refine And.intro ?_ ?_ | refine subL_cons ?_ ?_ | refine var_mk ?_ | exact sub_ptr rfl rfl | exact sub_sl rfl rfl rfl | exact sub_refl_val _ _ | exact sub_sbl rfl | exact row_same rfl rfl rfl | ((first | refine sub_int ?_ ); first | with_reducible rfl | omega | ((try simp only [wS]); omega) | rfl) ))))); (any_goals (apply okIx_mk; rfl)))); (all_goals (try (first | (simp only; omega)))))
  ))
   ·rw [hh, Bool.true_or] at hsk
    (repeat' (first
  | (intro Q h; refine h ?_; clear h Q)
  | (with_reducible refine bcase_true ?_)
  | (refine bcase_mk (fun hb => ?_) (fun hb => ?_) <;> (try simp only [nS, nT, eq_self, reduceCtorEq] at hb) <;> (try (exfalso; (first | omega ); done)))
  | refine draw_mk (by decide +kernel) ?_
  | refine seq_go ?_
  | refine And.intro (by first | omega | ((try simp only [wS]); omega) | rfl | decide) ?_
  | (apply next_sub (Subtype.mk (k + 1) (by first | omega | (simp only; omega))); (focus ((simp only [hsk]); apply le_mk [some 0, some 1, some 2, some 3, some 4, some 5, some 6, some 7, some 8, some 9]; (focus (iterate 2 (all_goals (repeat' (first | exact rows_same rfl rfl rfl rfl | exact os_same rfl rfl rfl rfl | exact subL_nil | exact trivial | (intro Q h; refine h ?_; clear h Q) | refine And.intro ?_ ?_ | refine subL_cons ?_ ?_ | refine var_mk ?_ | exact sub_ptr rfl rfl | exact sub_sl rfl rfl rfl | exact sub_refl_val _ _ | exact sub_sbl rfl | exact row_same rfl rfl rfl | ((first | refine sub_int ?_ ); first | with_reducible rfl | omega | ((try simp only [wS]); omega) | rfl) ))))); (any_goals (apply okIx_mk; rfl)))); (all_goals (try (first | (simp only; omega)))))
  ))
  ·obtain rfl : k = s.l.length := by omega
   have hh := hq
   (repeat' (first
  | (intro Q h; refine h ?_; clear h Q)
  | (refine bcase_mk (fun hb => ?_) (fun hb => ?_) <;> (try simp only [nS, nT, eq_self, reduceCtorEq] at hb) <;> (try (exfalso; (first | omega | (rw [hh] at hb; cases hb)); done)))
  | (apply next_sub (Subtype.mk (i + 1) _); (focus (apply le_mk [some 0, some 1, some 2, some 3, some 4, some 5, some 6, some 7, some 8, some 9]; (focus (iterate 2 (all_goals (repeat' (first | exact rows_same rfl rfl rfl rfl | exact os_same rfl rfl rfl rfl | exact subL_nil | exact trivial | (intro Q h; refine h ?_; clear h Q) | refine And.intro ?_ ?_ | refine subL_cons ?_ ?_ | refine var_mk ?_ | exact sub_ptr rfl rfl | exact sub_sl rfl rfl rfl | exact sub_refl_val _ _ | exact row_same rfl rfl rfl | ((first | refine sub_int ?_ ); first | with_reducible rfl | omega | ((try simp only [wS]); omega) | rfl) ))))); (any_goals (apply okIx_mk; rfl)))); (all_goals (try (first | omega | (simp only; omega)))))
  ))
 ·obtain rfl : i = R.length := by omega
  (repeat' (first
  | (intro Q h; refine h ?_; clear h Q)
  | (refine bcase_mk (fun hb => ?_) (fun hb => ?_) <;> (try simp only [nS, nT, eq_self, reduceCtorEq] at hb) <;> (try (exfalso; (first | omega ); done)))
  | refine seq_go ?_
  | ((first | apply call0 (haw) ); (focus (iterate 2 (all_goals (repeat' (first | exact subL_nil ))))))
  | (apply ret_mk [some 0, some 1, some 2, some 3, some 4, some 5, some 6, some 7]; (focus (iterate 2 (all_goals (repeat' (first | exact rows_same rfl rfl rfl rfl | exact os_same rfl rfl rfl rfl | exact trivial | (intro Q h; refine h ?_; clear h Q) | refine And.intro ?_ ?_ | exact sub_sb rfl | exact row_same rfl rfl rfl ))))); (any_goals (apply okIx_mk; rfl)))
  ))
end Go.Vx.L58

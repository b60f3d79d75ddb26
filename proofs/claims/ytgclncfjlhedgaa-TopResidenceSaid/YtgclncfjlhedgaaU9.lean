/- Lemmas of a small executor for the model, and contracts of functions, used for the law that this claim proves. No condition. -/
import Derived.Test.YtgclncfjlhedgaaU8
set_option linter.unusedSimpArgs false
set_option linter.unusedVariables false
set_option maxRecDepth 100000
namespace Go.Vx.L21
open Go Go.Proofs
/-- A way, without its stays. -/
structure Wy where
  at_ : Int
  off : Int
  there : Int
  back : Int
abbrev wyL (w : Wy) (n : Nat) (cap : Option Nat) : List AV := [.val (.int .i64 w.at_), .val (.int .i64 w.off), .val (.int .i64 w.there), .val (.int .i64 w.back), .sl 0 1 0 n cap]
abbrev inB (l : List Int) : Blk := .arr false 3 1 l.length (intF l)
def okN (n : Int) : Prop := 0 ≤ n ∧ n ≤ 34359738368
structure WyOK (w : Wy) (l : List Int) : Prop where
  at_ : 0 ≤ w.at_ ∧ w.at_ ≤ 35184372088832
  off : -35184372088832 ≤ w.off ∧ w.off ≤ 35184372088832
  there : 0 ≤ w.there ∧ w.there ≤ 1099511627776
  back : 0 ≤ w.back ∧ w.back ≤ 1099511627776
  len : l.length ≤ 20
  el : ∀ k, k < l.length → okN (l.getD k 0)
set_option maxHeartbeats 1000000 in
theorem within_t (w : Wy) (l : List Int) (cap : Option Nat) (h : WyOK w l) : Runs Try.prog 4 [.agg (wyL w l.length cap)] [inB l] (Det (.sb true) [inB l]) := by
  obtain ⟨a1, a2, a3, a4, a5, a6⟩ := h
  refine Runs.mk tabOK Try.call4 Try.func4 rfl Try.ntmps4 Try.results4 rfl ?_
  (repeat' (first
    | (intro Q h; refine h ?_; clear h Q)
    | refine bcase_t (by first | exact beq_self_eq_true _ | decide) ?_
    | refine bcase_f (by decide) ?_
    | (with_reducible refine bcase_true ?_)
    | (with_reducible refine bcase_false ?_)
    | (refine bcase_mk (fun hb => ?_) (fun hb => ?_) <;> (try simp only [decide_eq_true_eq, decide_eq_false_iff_not, beq_iff_eq, beq_eq_false_iff_ne, bne_iff_ne, bne_eq_false_iff_eq, Bool.not_eq_true', Bool.not_eq_false', Bool.and_eq_true, Bool.or_eq_true, ne_eq, Int.not_lt, Int.not_le, eq_self, not_true_eq_false, not_false_eq_true, reduceCtorEq, Bool.and_true, Bool.true_and, beq_self_eq_true, bne_self_eq_false, Bool.false_eq_true, Bool.and_false, Bool.not_true, Bool.not_false] at hb))
    | refine nil_mk (fun hz => ?_) ?_
    | refine draw_mk (by decide +kernel) ?_
    | refine seq_go ?_
    | refine And.intro (by first | omega | ((try simp only [IntKind.wrap_i64, List.length_append, List.length_cons, List.length_nil, List.length_take, List.length_map, Int.toNat_natCast]); omega) | rfl | decide) ?_
    | omega))
  refine loop_mk (σ := { k : Nat // k ≤ l.length }) (fun k => ⟨[(50, .sl 0 1 0 l.length cap), (51, .val (.int .i64 l.length)), (52, .val (.int .i64 k.1))], [inB l]⟩) (fun k => l.length - k.1) ⟨0, by omega⟩ ?_ ?_
  · (apply le_mk [some 0]; (focus (iterate 2 (all_goals (repeat' (first | exact sub_dead | exact subL_nil | exact trivial | (intro Q h; refine h ?_; clear h Q) | refine And.intro ?_ ?_ | refine subL_cons ?_ ?_ | refine sub_agg ?_ | refine sub_tup ?_ | refine sub_fn ?_ | refine sub_bfn ?_ ?_ | refine var_mk ?_ | refine rd_var ?_ rfl | refine rd_rd ?_ | exact sub_ptr rfl rfl | exact sub_sl rfl rfl rfl | exact sub_refl_val _ _ | (refine sub_int ?_; first | with_reducible rfl | omega | ((try simp only [IntKind.wrap_i64, List.length_append, List.length_cons, List.length_nil, List.length_take, List.length_map, Int.toNat_natCast]); omega) | rfl) | exact sub_sb rfl | exact sub_sbl rfl | exact row_same rfl rfl rfl | exact row_ren rfl rfl rfl | (refine sub_sl rfl rfl ?_; first | with_reducible rfl | omega | ((try simp only [IntKind.wrap_i64, List.length_append, List.length_cons, List.length_nil, List.length_take, List.length_map, Int.toNat_natCast]); omega) | rfl) | exact sub_nil rfl | (refine sub_nil ?_; first | with_reducible rfl | omega | ((try simp only [IntKind.wrap_i64, List.length_append, List.length_cons, List.length_nil, List.length_take, List.length_map, Int.toNat_natCast]); omega) | rfl) | (refine virt_mk ?_; first | with_reducible rfl | omega | ((try simp only [IntKind.wrap_i64, List.length_append, List.length_cons, List.length_nil, List.length_take, List.length_map, Int.toNat_natCast]); omega) | rfl) | apply row_app1 | apply row_app2 | apply row_app1r | refine cells_succ ?_ ?_ | exact cell0 | with_reducible rfl | (refine And.left (b := True) ⟨?_, True.intro⟩; assumption) | (show (_ : Nat) = _; first | with_reducible rfl | omega | ((try simp only [IntKind.wrap_i64, List.length_append, List.length_cons, List.length_nil, List.length_take, List.length_map, Int.toNat_natCast]); omega) | rfl) | refine sub_int ?_ | refine sub_sb ?_ | refine sub_sbl ?_ | refine sub_sl rfl rfl ?_ | (apply row_lit rfl; (focus (refine cells_succ ?_ ?_))) | refine row_same rfl ?_ ?_ | refine row_ren rfl ?_ ?_))))); (any_goals (apply okIx_mk; rfl)))
  rintro ⟨k, hk⟩
  have b := a6 k
  rw [show l.getD k 0 = l.getD (0 + Int.toNat (k : Int)) 0 from by rw [Int.toNat_natCast, Nat.zero_add]] at b
  unfold okN at b
  (repeat' (first
    | (intro Q h; refine h ?_; clear h Q)
    | refine bcase_t (by first | exact beq_self_eq_true _ | decide) ?_
    | refine bcase_f (by decide) ?_
    | (with_reducible refine bcase_true ?_)
    | (with_reducible refine bcase_false ?_)
    | (refine bcase_mk (fun hb => ?_) (fun hb => ?_) <;> (try simp only [decide_eq_true_eq, decide_eq_false_iff_not, beq_iff_eq, beq_eq_false_iff_ne, bne_iff_ne, bne_eq_false_iff_eq, Bool.not_eq_true', Bool.not_eq_false', Bool.and_eq_true, Bool.or_eq_true, ne_eq, Int.not_lt, Int.not_le, eq_self, not_true_eq_false, not_false_eq_true, reduceCtorEq, Bool.and_true, Bool.true_and, beq_self_eq_true, bne_self_eq_false, Bool.false_eq_true, Bool.and_false, Bool.not_true, Bool.not_false] at hb))
    | refine nil_mk (fun hz => ?_) ?_
    | refine draw_mk (by decide +kernel) ?_
    | refine seq_go ?_
    | refine And.intro (by first | omega | ((try simp only [IntKind.wrap_i64, List.length_append, List.length_cons, List.length_nil, List.length_take, List.length_map, Int.toNat_natCast]); omega) | rfl | decide) ?_
    | (apply ret_mk [some 0]; (focus (iterate 2 (all_goals (repeat' (first | exact sub_dead | exact subL_nil | exact trivial | (intro Q h; refine h ?_; clear h Q) | refine And.intro ?_ ?_ | refine subL_cons ?_ ?_ | refine sub_agg ?_ | refine sub_tup ?_ | refine sub_fn ?_ | refine sub_bfn ?_ ?_ | refine var_mk ?_ | refine rd_var ?_ rfl | refine rd_rd ?_ | exact sub_ptr rfl rfl | exact sub_sl rfl rfl rfl | exact sub_refl_val _ _ | (refine sub_int ?_; first | with_reducible rfl | omega | ((try simp only [IntKind.wrap_i64, List.length_append, List.length_cons, List.length_nil, List.length_take, List.length_map, Int.toNat_natCast]); omega) | rfl) | exact sub_sb rfl | exact sub_sbl rfl | exact row_same rfl rfl rfl | exact row_ren rfl rfl rfl | (refine sub_sl rfl rfl ?_; first | with_reducible rfl | omega | ((try simp only [IntKind.wrap_i64, List.length_append, List.length_cons, List.length_nil, List.length_take, List.length_map, Int.toNat_natCast]); omega) | rfl) | exact sub_nil rfl | (refine sub_nil ?_; first | with_reducible rfl | omega | ((try simp only [IntKind.wrap_i64, List.length_append, List.length_cons, List.length_nil, List.length_take, List.length_map, Int.toNat_natCast]); omega) | rfl) | (refine virt_mk ?_; first | with_reducible rfl | omega | ((try simp only [IntKind.wrap_i64, List.length_append, List.length_cons, List.length_nil, List.length_take, List.length_map, Int.toNat_natCast]); omega) | rfl) | apply row_app1 | apply row_app2 | apply row_app1r | refine cells_succ ?_ ?_ | exact cell0 | with_reducible rfl | (refine And.left (b := True) ⟨?_, True.intro⟩; assumption) | (show (_ : Nat) = _; first | with_reducible rfl | omega | ((try simp only [IntKind.wrap_i64, List.length_append, List.length_cons, List.length_nil, List.length_take, List.length_map, Int.toNat_natCast]); omega) | rfl) | refine sub_int ?_ | refine sub_sb ?_ | refine sub_sbl ?_ | refine sub_sl rfl rfl ?_ | (apply row_lit rfl; (focus (refine cells_succ ?_ ?_))) | refine row_same rfl ?_ ?_ | refine row_ren rfl ?_ ?_))))); (any_goals (apply okIx_mk; rfl)))
    | (refine next_mk (⟨k + 1, by omega⟩) (by first | (simp; omega) | omega) ?_; apply le_mk [some 0]; (focus (iterate 2 (all_goals (repeat' (first | exact sub_dead | exact subL_nil | exact trivial | (intro Q h; refine h ?_; clear h Q) | refine And.intro ?_ ?_ | refine subL_cons ?_ ?_ | refine sub_agg ?_ | refine sub_tup ?_ | refine sub_fn ?_ | refine sub_bfn ?_ ?_ | refine var_mk ?_ | refine rd_var ?_ rfl | refine rd_rd ?_ | exact sub_ptr rfl rfl | exact sub_sl rfl rfl rfl | exact sub_refl_val _ _ | (refine sub_int ?_; first | with_reducible rfl | omega | ((try simp only [IntKind.wrap_i64, List.length_append, List.length_cons, List.length_nil, List.length_take, List.length_map, Int.toNat_natCast]); omega) | rfl) | exact sub_sb rfl | exact sub_sbl rfl | exact row_same rfl rfl rfl | exact row_ren rfl rfl rfl | (refine sub_sl rfl rfl ?_; first | with_reducible rfl | omega | ((try simp only [IntKind.wrap_i64, List.length_append, List.length_cons, List.length_nil, List.length_take, List.length_map, Int.toNat_natCast]); omega) | rfl) | exact sub_nil rfl | (refine sub_nil ?_; first | with_reducible rfl | omega | ((try simp only [IntKind.wrap_i64, List.length_append, List.length_cons, List.length_nil, List.length_take, List.length_map, Int.toNat_natCast]); omega) | rfl) | (refine virt_mk ?_; first | with_reducible rfl | omega | ((try simp only [IntKind.wrap_i64, List.length_append, List.length_cons, List.length_nil, List.length_take, List.length_map, Int.toNat_natCast]); omega) | rfl) | apply row_app1 | apply row_app2 | apply row_app1r | refine cells_succ ?_ ?_ | exact cell0 | with_reducible rfl | (refine And.left (b := True) ⟨?_, True.intro⟩; assumption) | (show (_ : Nat) = _; first | with_reducible rfl | omega | ((try simp only [IntKind.wrap_i64, List.length_append, List.length_cons, List.length_nil, List.length_take, List.length_map, Int.toNat_natCast]); omega) | rfl) | refine sub_int ?_ | refine sub_sb ?_ | refine sub_sbl ?_ | refine sub_sl rfl rfl ?_ | (apply row_lit rfl; (focus (refine cells_succ ?_ ?_))) | refine row_same rfl ?_ ?_ | refine row_ren rfl ?_ ?_))))); (any_goals (apply okIx_mk; rfl)))
    | omega))
set_option maxHeartbeats 1000000 in
theorem within_f (w : Wy) (l : List Int) (cap : Option Nat) (hl : l.length ≤ 9223372036854775807) (h : ¬ WyOK w l) : Runs Try.prog 4 [.agg (wyL w l.length cap)] [inB l] (Det (.sb false) [inB l]) := by
  by_cases h1 : (0 ≤ w.at_ ∧ w.at_ ≤ 35184372088832) ∧ (-35184372088832 ≤ w.off ∧ w.off ≤ 35184372088832) ∧ (0 ≤ w.there ∧ w.there ≤ 1099511627776) ∧ (0 ≤ w.back ∧ w.back ≤ 1099511627776) ∧ l.length ≤ 20
  rotate_left
  · refine Runs.mk tabOK Try.call4 Try.func4 rfl Try.ntmps4 Try.results4 rfl ?_
    (repeat' (first
    | (intro Q h; refine h ?_; clear h Q)
    | refine bcase_t (by first | exact beq_self_eq_true _ | decide) ?_
    | refine bcase_f (by decide) ?_
    | (with_reducible refine bcase_true ?_)
    | (with_reducible refine bcase_false ?_)
    | (refine bcase_mk (fun hb => ?_) (fun hb => ?_) <;> (try simp only [decide_eq_true_eq, decide_eq_false_iff_not, beq_iff_eq, beq_eq_false_iff_ne, bne_iff_ne, bne_eq_false_iff_eq, Bool.not_eq_true', Bool.not_eq_false', Bool.and_eq_true, Bool.or_eq_true, ne_eq, Int.not_lt, Int.not_le, eq_self, not_true_eq_false, not_false_eq_true, reduceCtorEq, Bool.and_true, Bool.true_and, beq_self_eq_true, bne_self_eq_false, Bool.false_eq_true, Bool.and_false, Bool.not_true, Bool.not_false] at hb))
    | refine nil_mk (fun hz => ?_) ?_
    | refine draw_mk (by decide +kernel) ?_
    | refine seq_go ?_
    | refine And.intro (by first | omega | ((try simp only [IntKind.wrap_i64, List.length_append, List.length_cons, List.length_nil, List.length_take, List.length_map, Int.toNat_natCast]); omega) | rfl | decide) ?_
    | (apply ret_mk [some 0]; (focus (iterate 2 (all_goals (repeat' (first | exact sub_dead | exact subL_nil | exact trivial | (intro Q h; refine h ?_; clear h Q) | refine And.intro ?_ ?_ | refine subL_cons ?_ ?_ | refine sub_agg ?_ | refine sub_tup ?_ | refine sub_fn ?_ | refine sub_bfn ?_ ?_ | refine var_mk ?_ | refine rd_var ?_ rfl | refine rd_rd ?_ | exact sub_ptr rfl rfl | exact sub_sl rfl rfl rfl | exact sub_refl_val _ _ | (refine sub_int ?_; first | with_reducible rfl | omega | ((try simp only [IntKind.wrap_i64, List.length_append, List.length_cons, List.length_nil, List.length_take, List.length_map, Int.toNat_natCast]); omega) | rfl) | exact sub_sb rfl | exact sub_sbl rfl | exact row_same rfl rfl rfl | exact row_ren rfl rfl rfl | (refine sub_sl rfl rfl ?_; first | with_reducible rfl | omega | ((try simp only [IntKind.wrap_i64, List.length_append, List.length_cons, List.length_nil, List.length_take, List.length_map, Int.toNat_natCast]); omega) | rfl) | exact sub_nil rfl | (refine sub_nil ?_; first | with_reducible rfl | omega | ((try simp only [IntKind.wrap_i64, List.length_append, List.length_cons, List.length_nil, List.length_take, List.length_map, Int.toNat_natCast]); omega) | rfl) | (refine virt_mk ?_; first | with_reducible rfl | omega | ((try simp only [IntKind.wrap_i64, List.length_append, List.length_cons, List.length_nil, List.length_take, List.length_map, Int.toNat_natCast]); omega) | rfl) | apply row_app1 | apply row_app2 | apply row_app1r | refine cells_succ ?_ ?_ | exact cell0 | with_reducible rfl | (refine And.left (b := True) ⟨?_, True.intro⟩; assumption) | (show (_ : Nat) = _; first | with_reducible rfl | omega | ((try simp only [IntKind.wrap_i64, List.length_append, List.length_cons, List.length_nil, List.length_take, List.length_map, Int.toNat_natCast]); omega) | rfl) | refine sub_int ?_ | refine sub_sb ?_ | refine sub_sbl ?_ | refine sub_sl rfl rfl ?_ | (apply row_lit rfl; (focus (refine cells_succ ?_ ?_))) | refine row_same rfl ?_ ?_ | refine row_ren rfl ?_ ?_))))); (any_goals (apply okIx_mk; rfl)))
    | omega))
  obtain ⟨a1, a2, a3, a4, a5⟩ := h1
  refine Runs.mk tabOK Try.call4 Try.func4 rfl Try.ntmps4 Try.results4 rfl ?_
  (repeat' (first
    | (intro Q h; refine h ?_; clear h Q)
    | refine bcase_t (by first | exact beq_self_eq_true _ | decide) ?_
    | refine bcase_f (by decide) ?_
    | (with_reducible refine bcase_true ?_)
    | (with_reducible refine bcase_false ?_)
    | (refine bcase_mk (fun hb => ?_) (fun hb => ?_) <;> (try simp only [decide_eq_true_eq, decide_eq_false_iff_not, beq_iff_eq, beq_eq_false_iff_ne, bne_iff_ne, bne_eq_false_iff_eq, Bool.not_eq_true', Bool.not_eq_false', Bool.and_eq_true, Bool.or_eq_true, ne_eq, Int.not_lt, Int.not_le, eq_self, not_true_eq_false, not_false_eq_true, reduceCtorEq, Bool.and_true, Bool.true_and, beq_self_eq_true, bne_self_eq_false, Bool.false_eq_true, Bool.and_false, Bool.not_true, Bool.not_false] at hb))
    | refine nil_mk (fun hz => ?_) ?_
    | refine draw_mk (by decide +kernel) ?_
    | refine seq_go ?_
    | refine And.intro (by first | omega | ((try simp only [IntKind.wrap_i64, List.length_append, List.length_cons, List.length_nil, List.length_take, List.length_map, Int.toNat_natCast]); omega) | rfl | decide) ?_
    | omega))
  refine loop_inv (σ := Nat) (fun x => x ≤ l.length ∧ ∀ j, j < x → okN (l.getD j 0)) (fun x => ⟨[(50, .sl 0 1 0 l.length cap), (51, .val (.int .i64 l.length)), (52, .val (.int .i64 x))], [inB l]⟩) (fun x => l.length - x) (0) ?_ ?_ ?_
  · exact ⟨by omega, fun j hj => absurd hj (by omega)⟩
  · (apply le_mk [some 0]; (focus (iterate 2 (all_goals (repeat' (first | exact sub_dead | exact subL_nil | exact trivial | (intro Q h; refine h ?_; clear h Q) | refine And.intro ?_ ?_ | refine subL_cons ?_ ?_ | refine sub_agg ?_ | refine sub_tup ?_ | refine sub_fn ?_ | refine sub_bfn ?_ ?_ | refine var_mk ?_ | refine rd_var ?_ rfl | refine rd_rd ?_ | exact sub_ptr rfl rfl | exact sub_sl rfl rfl rfl | exact sub_refl_val _ _ | (refine sub_int ?_; first | with_reducible rfl | omega | ((try simp only [IntKind.wrap_i64, List.length_append, List.length_cons, List.length_nil, List.length_take, List.length_map, Int.toNat_natCast]); omega) | rfl) | exact sub_sb rfl | exact sub_sbl rfl | exact row_same rfl rfl rfl | exact row_ren rfl rfl rfl | (refine sub_sl rfl rfl ?_; first | with_reducible rfl | omega | ((try simp only [IntKind.wrap_i64, List.length_append, List.length_cons, List.length_nil, List.length_take, List.length_map, Int.toNat_natCast]); omega) | rfl) | exact sub_nil rfl | (refine sub_nil ?_; first | with_reducible rfl | omega | ((try simp only [IntKind.wrap_i64, List.length_append, List.length_cons, List.length_nil, List.length_take, List.length_map, Int.toNat_natCast]); omega) | rfl) | (refine virt_mk ?_; first | with_reducible rfl | omega | ((try simp only [IntKind.wrap_i64, List.length_append, List.length_cons, List.length_nil, List.length_take, List.length_map, Int.toNat_natCast]); omega) | rfl) | apply row_app1 | apply row_app2 | apply row_app1r | refine cells_succ ?_ ?_ | exact cell0 | with_reducible rfl | (refine And.left (b := True) ⟨?_, True.intro⟩; assumption) | (show (_ : Nat) = _; first | with_reducible rfl | omega | ((try simp only [IntKind.wrap_i64, List.length_append, List.length_cons, List.length_nil, List.length_take, List.length_map, Int.toNat_natCast]); omega) | rfl) | refine sub_int ?_ | refine sub_sb ?_ | refine sub_sbl ?_ | refine sub_sl rfl rfl ?_ | (apply row_lit rfl; (focus (refine cells_succ ?_ ?_))) | refine row_same rfl ?_ ?_ | refine row_ren rfl ?_ ?_))))); (any_goals (apply okIx_mk; rfl)))
  rintro k ⟨hk, hall⟩
  (repeat' (first
    | (intro Q h; refine h ?_; clear h Q)
    | refine bcase_t (by first | exact beq_self_eq_true _ | decide) ?_
    | refine bcase_f (by decide) ?_
    | (with_reducible refine bcase_true ?_)
    | (with_reducible refine bcase_false ?_)
    | (refine bcase_mk (fun hb => ?_) (fun hb => ?_) <;> (try simp only [decide_eq_true_eq, decide_eq_false_iff_not, beq_iff_eq, beq_eq_false_iff_ne, bne_iff_ne, bne_eq_false_iff_eq, Bool.not_eq_true', Bool.not_eq_false', Bool.and_eq_true, Bool.or_eq_true, ne_eq, Int.not_lt, Int.not_le, eq_self, not_true_eq_false, not_false_eq_true, reduceCtorEq, Bool.and_true, Bool.true_and, beq_self_eq_true, bne_self_eq_false, Bool.false_eq_true, Bool.and_false, Bool.not_true, Bool.not_false] at hb))
    | refine nil_mk (fun hz => ?_) ?_
    | refine draw_mk (by decide +kernel) ?_
    | refine seq_go ?_
    | refine And.intro (by first | omega | ((try simp only [IntKind.wrap_i64, List.length_append, List.length_cons, List.length_nil, List.length_take, List.length_map, Int.toNat_natCast]); omega) | rfl | decide) ?_
    | (apply ret_mk [some 0]; (focus (iterate 2 (all_goals (repeat' (first | exact sub_dead | exact subL_nil | exact trivial | (intro Q h; refine h ?_; clear h Q) | refine And.intro ?_ ?_ | refine subL_cons ?_ ?_ | refine sub_agg ?_ | refine sub_tup ?_ | refine sub_fn ?_ | refine sub_bfn ?_ ?_ | refine var_mk ?_ | refine rd_var ?_ rfl | refine rd_rd ?_ | exact sub_ptr rfl rfl | exact sub_sl rfl rfl rfl | exact sub_refl_val _ _ | (refine sub_int ?_; first | with_reducible rfl | omega | ((try simp only [IntKind.wrap_i64, List.length_append, List.length_cons, List.length_nil, List.length_take, List.length_map, Int.toNat_natCast]); omega) | rfl) | exact sub_sb rfl | exact sub_sbl rfl | exact row_same rfl rfl rfl | exact row_ren rfl rfl rfl | (refine sub_sl rfl rfl ?_; first | with_reducible rfl | omega | ((try simp only [IntKind.wrap_i64, List.length_append, List.length_cons, List.length_nil, List.length_take, List.length_map, Int.toNat_natCast]); omega) | rfl) | exact sub_nil rfl | (refine sub_nil ?_; first | with_reducible rfl | omega | ((try simp only [IntKind.wrap_i64, List.length_append, List.length_cons, List.length_nil, List.length_take, List.length_map, Int.toNat_natCast]); omega) | rfl) | (refine virt_mk ?_; first | with_reducible rfl | omega | ((try simp only [IntKind.wrap_i64, List.length_append, List.length_cons, List.length_nil, List.length_take, List.length_map, Int.toNat_natCast]); omega) | rfl) | apply row_app1 | apply row_app2 | apply row_app1r | refine cells_succ ?_ ?_ | exact cell0 | with_reducible rfl | (refine And.left (b := True) ⟨?_, True.intro⟩; assumption) | (show (_ : Nat) = _; first | with_reducible rfl | omega | ((try simp only [IntKind.wrap_i64, List.length_append, List.length_cons, List.length_nil, List.length_take, List.length_map, Int.toNat_natCast]); omega) | rfl) | refine sub_int ?_ | refine sub_sb ?_ | refine sub_sbl ?_ | refine sub_sl rfl rfl ?_ | (apply row_lit rfl; (focus (refine cells_succ ?_ ?_))) | refine row_same rfl ?_ ?_ | refine row_ren rfl ?_ ?_))))); (any_goals (apply okIx_mk; rfl)))
    | omega))
  · have hb1 := ‹0 ≤ l.getD (0 + Int.toNat (k : Int)) 0›
    rw [Int.toNat_natCast, Nat.zero_add] at hb hb1
    refine next_sub (Subtype.mk (k + 1) ⟨by omega, fun j hj => ?_⟩) ?_ (by simp only; omega)
    · rcases Nat.lt_or_ge j k with h | h
      · exact hall j h
      · obtain rfl : j = k := by omega
        exact ⟨hb1, hb⟩
    (apply le_mk [some 0]; (focus (iterate 2 (all_goals (repeat' (first | exact sub_dead | exact subL_nil | exact trivial | (intro Q h; refine h ?_; clear h Q) | refine And.intro ?_ ?_ | refine subL_cons ?_ ?_ | refine sub_agg ?_ | refine sub_tup ?_ | refine sub_fn ?_ | refine sub_bfn ?_ ?_ | refine var_mk ?_ | refine rd_var ?_ rfl | refine rd_rd ?_ | exact sub_ptr rfl rfl | exact sub_sl rfl rfl rfl | exact sub_refl_val _ _ | (refine sub_int ?_; first | with_reducible rfl | omega | ((try simp only [IntKind.wrap_i64, List.length_append, List.length_cons, List.length_nil, List.length_take, List.length_map, Int.toNat_natCast]); omega) | rfl) | exact sub_sb rfl | exact sub_sbl rfl | exact row_same rfl rfl rfl | exact row_ren rfl rfl rfl | (refine sub_sl rfl rfl ?_; first | with_reducible rfl | omega | ((try simp only [IntKind.wrap_i64, List.length_append, List.length_cons, List.length_nil, List.length_take, List.length_map, Int.toNat_natCast]); omega) | rfl) | exact sub_nil rfl | (refine sub_nil ?_; first | with_reducible rfl | omega | ((try simp only [IntKind.wrap_i64, List.length_append, List.length_cons, List.length_nil, List.length_take, List.length_map, Int.toNat_natCast]); omega) | rfl) | (refine virt_mk ?_; first | with_reducible rfl | omega | ((try simp only [IntKind.wrap_i64, List.length_append, List.length_cons, List.length_nil, List.length_take, List.length_map, Int.toNat_natCast]); omega) | rfl) | apply row_app1 | apply row_app2 | apply row_app1r | refine cells_succ ?_ ?_ | exact cell0 | with_reducible rfl | (refine And.left (b := True) ⟨?_, True.intro⟩; assumption) | (show (_ : Nat) = _; first | with_reducible rfl | omega | ((try simp only [IntKind.wrap_i64, List.length_append, List.length_cons, List.length_nil, List.length_take, List.length_map, Int.toNat_natCast]); omega) | rfl) | refine sub_int ?_ | refine sub_sb ?_ | refine sub_sbl ?_ | refine sub_sl rfl rfl ?_ | (apply row_lit rfl; (focus (refine cells_succ ?_ ?_))) | refine row_same rfl ?_ ?_ | refine row_ren rfl ?_ ?_))))); (any_goals (apply okIx_mk; rfl)))
  · exfalso
    exact h ⟨a1, a2, a3, a4, a5, fun j hj => hall j (by omega)⟩
end Go.Vx.L21

/- Lemmas of a small executor for the model, and contracts of functions, used for the law that this claim proves. No condition. -/
import Derived.Test.YtpohlkhnilcfnaaEH11
set_option linter.unusedSimpArgs false
set_option linter.unusedVariables false
set_option maxRecDepth 100000
namespace Go.Vx.I23
open Go Go.Proofs
def i32C (n : Int) : List AV := [.val (.int .i32 n)]
instance : FlatC i32C := ⟨fun x v h => by simp [i32C] at h; subst h; trivial⟩
def u16C (n : Int) : List AV := [.val (.int .u16 n)]
instance : FlatC u16C := ⟨fun x v h => by simp [u16C] at h; subst h; trivial⟩
def mxN (l : List Int) : Nat → Int
  | 0 => l.getD 0 0
  | k + 1 => if l.getD (k + 1) 0 > mxN l k then l.getD (k + 1) 0 else mxN l k
def mnN (l : List Int) : Nat → Int
  | 0 => l.getD 0 0
  | k + 1 => if l.getD (k + 1) 0 < mnN l k then l.getD (k + 1) 0 else mnN l k
theorem max_ok (l : List Int) (cap : Option Nat) (hl : l.length ≤ 1000000) (h0 : 0 < l.length) :
    Runs Try.prog 52 [.sl 0 1 0 l.length cap] [.arr false 21 1 l.length (rowF i32C 0 l)] (Det (.val (.int .i32 (mxN l (l.length - 1)))) [.arr false 21 1 l.length (rowF i32C 0 l)]) := by
  refine Runs.mk tabOK Try.call52 Try.func52 rfl Try.ntmps52 Try.results52 rfl ?_
  (repeat' (first
    | (intro Q h; refine h ?_; clear h Q)
    | (with_reducible refine bcase_true ?_)
    | (with_reducible refine bcase_false ?_)
    | (refine bcase_mk (fun hb => ?_) (fun hb => ?_) <;> (try simp only [decide_eq_true_eq, decide_eq_false_iff_not, beq_iff_eq, beq_eq_false_iff_ne, bne_iff_ne, bne_eq_false_iff_eq, Bool.not_eq_true', Bool.not_eq_false', Bool.and_eq_true, Bool.or_eq_true, ne_eq, Int.not_lt, Int.not_le, eq_self, not_true_eq_false, not_false_eq_true, reduceCtorEq, Bool.and_true, Bool.true_and, beq_self_eq_true, bne_self_eq_false, Bool.false_eq_true, Bool.and_false, Bool.not_true, Bool.not_false] at hb))
    | refine nil_mk (fun hz => ?_) ?_
    | refine draw_mk (by decide +kernel) ?_
    | refine seq_go ?_
    | refine And.intro (by first | omega | ((try simp only [IntKind.wrap_i64, List.length_append, List.length_cons, List.length_nil, List.length_take, List.length_map, Int.toNat_natCast]); omega) | rfl | decide) ?_
    | omega))
  refine loop_inv (σ := Nat) (fun x => x < l.length) (fun x => ⟨[(0, .sl 0 1 0 l.length cap), (3, .val (.int .i32 (mxN l x))), (4, .val (.int .i64 ((x : Int) + 1)))], [.arr false 21 1 l.length (rowF i32C 0 l)]⟩) (fun x => l.length - x) (0) ?_ ?_ ?_
  · exact h0
  · (apply le_mk [some 0]; (focus (iterate 2 (all_goals (repeat' (first | exact sub_dead | exact sub_map rfl | exact map_same rfl | exact map_updc rfl | refine map_updc ?_ | refine map_same ?_ | refine map_mk ?_ ?_ | exact subL_nil | exact trivial | (intro Q h; refine h ?_; clear h Q) | refine And.intro ?_ ?_ | refine subL_cons ?_ ?_ | refine sub_agg ?_ | refine sub_tup ?_ | refine sub_fn ?_ | refine var_mk ?_ | refine rd_var ?_ rfl | refine rd_rd ?_ | exact sub_ptr rfl rfl | exact sub_sl rfl rfl rfl | exact sub_refl_val _ _ | (refine sub_int ?_; first | with_reducible rfl | omega | ((try simp only [IntKind.wrap_i64, List.length_append, List.length_cons, List.length_nil, List.length_take, List.length_map, Int.toNat_natCast]); omega) | rfl) | exact sub_sb rfl | exact sub_sbl rfl | exact row_same rfl rfl rfl | exact row_ren rfl rfl rfl | (refine sub_sl rfl rfl ?_; first | with_reducible rfl | omega | ((try simp only [IntKind.wrap_i64, List.length_append, List.length_cons, List.length_nil, List.length_take, List.length_map, Int.toNat_natCast]); omega) | rfl) | exact sub_nil rfl | (refine sub_nil ?_; first | with_reducible rfl | omega | ((try simp only [IntKind.wrap_i64, List.length_append, List.length_cons, List.length_nil, List.length_take, List.length_map, Int.toNat_natCast]); omega) | rfl) | (refine virt_mk ?_; first | with_reducible rfl | omega | ((try simp only [IntKind.wrap_i64, List.length_append, List.length_cons, List.length_nil, List.length_take, List.length_map, Int.toNat_natCast]); omega) | rfl) | apply row_app1 | apply row_app2 | apply row_app1r | refine cells_succ ?_ ?_ | exact cell0 | with_reducible rfl | (refine And.left (b := True) ⟨?_, True.intro⟩; assumption) | (show (_ : Nat) = _; first | with_reducible rfl | omega | ((try simp only [IntKind.wrap_i64, List.length_append, List.length_cons, List.length_nil, List.length_take, List.length_map, Int.toNat_natCast]); omega) | rfl) | refine sub_int ?_ | refine sub_sb ?_ | refine sub_sbl ?_ | refine sub_sl rfl rfl ?_ | (apply row_lit rfl; (focus (refine cells_succ ?_ ?_))) | refine row_same rfl ?_ ?_ | refine row_ren rfl ?_ ?_))))); (any_goals (apply okIx_mk; rfl)))
  rintro k hk
  (repeat' (first
    | (intro Q h; refine h ?_; clear h Q)
    | (with_reducible refine bcase_true ?_)
    | (with_reducible refine bcase_false ?_)
    | (refine bcase_mk (fun hb => ?_) (fun hb => ?_) <;> (try simp only [decide_eq_true_eq, decide_eq_false_iff_not, beq_iff_eq, beq_eq_false_iff_ne, bne_iff_ne, bne_eq_false_iff_eq, Bool.not_eq_true', Bool.not_eq_false', Bool.and_eq_true, Bool.or_eq_true, ne_eq, Int.not_lt, Int.not_le, eq_self, not_true_eq_false, not_false_eq_true, reduceCtorEq, Bool.and_true, Bool.true_and, beq_self_eq_true, bne_self_eq_false, Bool.false_eq_true, Bool.and_false, Bool.not_true, Bool.not_false] at hb))
    | refine nil_mk (fun hz => ?_) ?_
    | refine draw_mk (by decide +kernel) ?_
    | refine seq_go ?_
    | refine And.intro (by first | omega | ((try simp only [IntKind.wrap_i64, List.length_append, List.length_cons, List.length_nil, List.length_take, List.length_map, Int.toNat_natCast]); omega) | rfl | decide) ?_
    | (apply ret_mk [some 0]; (focus (iterate 2 (all_goals (repeat' (first | exact sub_dead | exact sub_map rfl | exact map_same rfl | exact map_updc rfl | refine map_updc ?_ | refine map_same ?_ | refine map_mk ?_ ?_ | exact subL_nil | exact trivial | (intro Q h; refine h ?_; clear h Q) | refine And.intro ?_ ?_ | refine subL_cons ?_ ?_ | refine sub_agg ?_ | refine sub_tup ?_ | refine sub_fn ?_ | refine var_mk ?_ | refine rd_var ?_ rfl | refine rd_rd ?_ | exact sub_ptr rfl rfl | exact sub_sl rfl rfl rfl | exact sub_refl_val _ _ | (refine sub_int ?_; first | with_reducible rfl | omega | ((try simp only [IntKind.wrap_i64, List.length_append, List.length_cons, List.length_nil, List.length_take, List.length_map, Int.toNat_natCast]); omega) | rfl) | exact sub_sb rfl | exact sub_sbl rfl | exact row_same rfl rfl rfl | exact row_ren rfl rfl rfl | (refine sub_sl rfl rfl ?_; first | with_reducible rfl | omega | ((try simp only [IntKind.wrap_i64, List.length_append, List.length_cons, List.length_nil, List.length_take, List.length_map, Int.toNat_natCast]); omega) | rfl) | exact sub_nil rfl | (refine sub_nil ?_; first | with_reducible rfl | omega | ((try simp only [IntKind.wrap_i64, List.length_append, List.length_cons, List.length_nil, List.length_take, List.length_map, Int.toNat_natCast]); omega) | rfl) | (refine virt_mk ?_; first | with_reducible rfl | omega | ((try simp only [IntKind.wrap_i64, List.length_append, List.length_cons, List.length_nil, List.length_take, List.length_map, Int.toNat_natCast]); omega) | rfl) | apply row_app1 | apply row_app2 | apply row_app1r | refine cells_succ ?_ ?_ | exact cell0 | with_reducible rfl | (refine And.left (b := True) ⟨?_, True.intro⟩; assumption) | (show (_ : Nat) = _; first | with_reducible rfl | omega | ((try simp only [IntKind.wrap_i64, List.length_append, List.length_cons, List.length_nil, List.length_take, List.length_map, Int.toNat_natCast]); omega) | rfl) | refine sub_int ?_ | refine sub_sb ?_ | refine sub_sbl ?_ | refine sub_sl rfl rfl ?_ | (apply row_lit rfl; (focus (refine cells_succ ?_ ?_))) | refine row_same rfl ?_ ?_ | refine row_ren rfl ?_ ?_))))); (any_goals (apply okIx_mk; rfl)))
    | (apply next_sub (Subtype.mk (k + 1) _); (focus (apply le_mk [some 0]; (focus (iterate 2 (all_goals (repeat' (first | exact sub_dead | exact sub_map rfl | exact map_same rfl | exact map_updc rfl | refine map_updc ?_ | refine map_same ?_ | refine map_mk ?_ ?_ | exact subL_nil | exact trivial | (intro Q h; refine h ?_; clear h Q) | refine And.intro ?_ ?_ | refine subL_cons ?_ ?_ | refine sub_agg ?_ | refine sub_tup ?_ | refine sub_fn ?_ | refine var_mk ?_ | refine rd_var ?_ rfl | refine rd_rd ?_ | exact sub_ptr rfl rfl | exact sub_sl rfl rfl rfl | exact sub_refl_val _ _ | (refine sub_int ?_; first | with_reducible rfl | omega | ((try simp only [IntKind.wrap_i64, List.length_append, List.length_cons, List.length_nil, List.length_take, List.length_map, Int.toNat_natCast]); omega) | rfl) | exact sub_sb rfl | exact sub_sbl rfl | exact row_same rfl rfl rfl | exact row_ren rfl rfl rfl | (refine sub_sl rfl rfl ?_; first | with_reducible rfl | omega | ((try simp only [IntKind.wrap_i64, List.length_append, List.length_cons, List.length_nil, List.length_take, List.length_map, Int.toNat_natCast]); omega) | rfl) | exact sub_nil rfl | (refine sub_nil ?_; first | with_reducible rfl | omega | ((try simp only [IntKind.wrap_i64, List.length_append, List.length_cons, List.length_nil, List.length_take, List.length_map, Int.toNat_natCast]); omega) | rfl) | (refine virt_mk ?_; first | with_reducible rfl | omega | ((try simp only [IntKind.wrap_i64, List.length_append, List.length_cons, List.length_nil, List.length_take, List.length_map, Int.toNat_natCast]); omega) | rfl) | apply row_app1 | apply row_app2 | apply row_app1r | refine cells_succ ?_ ?_ | exact cell0 | with_reducible rfl | (refine And.left (b := True) ⟨?_, True.intro⟩; assumption) | (show (_ : Nat) = _; first | with_reducible rfl | omega | ((try simp only [IntKind.wrap_i64, List.length_append, List.length_cons, List.length_nil, List.length_take, List.length_map, Int.toNat_natCast]); omega) | rfl) | refine sub_int ?_ | refine sub_sb ?_ | refine sub_sbl ?_ | refine sub_sl rfl rfl ?_ | (apply row_lit rfl; (focus (refine cells_succ ?_ ?_))) | refine row_same rfl ?_ ?_ | refine row_ren rfl ?_ ?_))))); (any_goals (apply okIx_mk; rfl)))); (all_goals (try (first | omega | (simp only; omega)))))
    | omega))
  all_goals (try dsimp only)
  all_goals first
    | (rw [show (0 + ((k : Int) + 1).toNat) = k + 1 by omega]; rfl)
    | (rw [show k = l.length - 1 by omega]; done)
    | fail
theorem min_ok (l : List Int) (cap : Option Nat) (hl : l.length ≤ 1000000) (h0 : 0 < l.length) :
    Runs Try.prog 53 [.sl 0 1 0 l.length cap] [.arr false 21 1 l.length (rowF i32C 0 l)] (Det (.val (.int .i32 (mnN l (l.length - 1)))) [.arr false 21 1 l.length (rowF i32C 0 l)]) := by
  refine Runs.mk tabOK Try.call53 Try.func53 rfl Try.ntmps53 Try.results53 rfl ?_
  (repeat' (first
    | (intro Q h; refine h ?_; clear h Q)
    | (with_reducible refine bcase_true ?_)
    | (with_reducible refine bcase_false ?_)
    | (refine bcase_mk (fun hb => ?_) (fun hb => ?_) <;> (try simp only [decide_eq_true_eq, decide_eq_false_iff_not, beq_iff_eq, beq_eq_false_iff_ne, bne_iff_ne, bne_eq_false_iff_eq, Bool.not_eq_true', Bool.not_eq_false', Bool.and_eq_true, Bool.or_eq_true, ne_eq, Int.not_lt, Int.not_le, eq_self, not_true_eq_false, not_false_eq_true, reduceCtorEq, Bool.and_true, Bool.true_and, beq_self_eq_true, bne_self_eq_false, Bool.false_eq_true, Bool.and_false, Bool.not_true, Bool.not_false] at hb))
    | refine nil_mk (fun hz => ?_) ?_
    | refine draw_mk (by decide +kernel) ?_
    | refine seq_go ?_
    | refine And.intro (by first | omega | ((try simp only [IntKind.wrap_i64, List.length_append, List.length_cons, List.length_nil, List.length_take, List.length_map, Int.toNat_natCast]); omega) | rfl | decide) ?_
    | omega))
  refine loop_inv (σ := Nat) (fun x => x < l.length) (fun x => ⟨[(0, .sl 0 1 0 l.length cap), (3, .val (.int .i32 (mnN l x))), (4, .val (.int .i64 ((x : Int) + 1)))], [.arr false 21 1 l.length (rowF i32C 0 l)]⟩) (fun x => l.length - x) (0) ?_ ?_ ?_
  · exact h0
  · (apply le_mk [some 0]; (focus (iterate 2 (all_goals (repeat' (first | exact sub_dead | exact sub_map rfl | exact map_same rfl | exact map_updc rfl | refine map_updc ?_ | refine map_same ?_ | refine map_mk ?_ ?_ | exact subL_nil | exact trivial | (intro Q h; refine h ?_; clear h Q) | refine And.intro ?_ ?_ | refine subL_cons ?_ ?_ | refine sub_agg ?_ | refine sub_tup ?_ | refine sub_fn ?_ | refine var_mk ?_ | refine rd_var ?_ rfl | refine rd_rd ?_ | exact sub_ptr rfl rfl | exact sub_sl rfl rfl rfl | exact sub_refl_val _ _ | (refine sub_int ?_; first | with_reducible rfl | omega | ((try simp only [IntKind.wrap_i64, List.length_append, List.length_cons, List.length_nil, List.length_take, List.length_map, Int.toNat_natCast]); omega) | rfl) | exact sub_sb rfl | exact sub_sbl rfl | exact row_same rfl rfl rfl | exact row_ren rfl rfl rfl | (refine sub_sl rfl rfl ?_; first | with_reducible rfl | omega | ((try simp only [IntKind.wrap_i64, List.length_append, List.length_cons, List.length_nil, List.length_take, List.length_map, Int.toNat_natCast]); omega) | rfl) | exact sub_nil rfl | (refine sub_nil ?_; first | with_reducible rfl | omega | ((try simp only [IntKind.wrap_i64, List.length_append, List.length_cons, List.length_nil, List.length_take, List.length_map, Int.toNat_natCast]); omega) | rfl) | (refine virt_mk ?_; first | with_reducible rfl | omega | ((try simp only [IntKind.wrap_i64, List.length_append, List.length_cons, List.length_nil, List.length_take, List.length_map, Int.toNat_natCast]); omega) | rfl) | apply row_app1 | apply row_app2 | apply row_app1r | refine cells_succ ?_ ?_ | exact cell0 | with_reducible rfl | (refine And.left (b := True) ⟨?_, True.intro⟩; assumption) | (show (_ : Nat) = _; first | with_reducible rfl | omega | ((try simp only [IntKind.wrap_i64, List.length_append, List.length_cons, List.length_nil, List.length_take, List.length_map, Int.toNat_natCast]); omega) | rfl) | refine sub_int ?_ | refine sub_sb ?_ | refine sub_sbl ?_ | refine sub_sl rfl rfl ?_ | (apply row_lit rfl; (focus (refine cells_succ ?_ ?_))) | refine row_same rfl ?_ ?_ | refine row_ren rfl ?_ ?_))))); (any_goals (apply okIx_mk; rfl)))
  rintro k hk
  (repeat' (first
    | (intro Q h; refine h ?_; clear h Q)
    | (with_reducible refine bcase_true ?_)
    | (with_reducible refine bcase_false ?_)
    | (refine bcase_mk (fun hb => ?_) (fun hb => ?_) <;> (try simp only [decide_eq_true_eq, decide_eq_false_iff_not, beq_iff_eq, beq_eq_false_iff_ne, bne_iff_ne, bne_eq_false_iff_eq, Bool.not_eq_true', Bool.not_eq_false', Bool.and_eq_true, Bool.or_eq_true, ne_eq, Int.not_lt, Int.not_le, eq_self, not_true_eq_false, not_false_eq_true, reduceCtorEq, Bool.and_true, Bool.true_and, beq_self_eq_true, bne_self_eq_false, Bool.false_eq_true, Bool.and_false, Bool.not_true, Bool.not_false] at hb))
    | refine nil_mk (fun hz => ?_) ?_
    | refine draw_mk (by decide +kernel) ?_
    | refine seq_go ?_
    | refine And.intro (by first | omega | ((try simp only [IntKind.wrap_i64, List.length_append, List.length_cons, List.length_nil, List.length_take, List.length_map, Int.toNat_natCast]); omega) | rfl | decide) ?_
    | (apply ret_mk [some 0]; (focus (iterate 2 (all_goals (repeat' (first | exact sub_dead | exact sub_map rfl | exact map_same rfl | exact map_updc rfl | refine map_updc ?_ | refine map_same ?_ | refine map_mk ?_ ?_ | exact subL_nil | exact trivial | (intro Q h; refine h ?_; clear h Q) | refine And.intro ?_ ?_ | refine subL_cons ?_ ?_ | refine sub_agg ?_ | refine sub_tup ?_ | refine sub_fn ?_ | refine var_mk ?_ | refine rd_var ?_ rfl | refine rd_rd ?_ | exact sub_ptr rfl rfl | exact sub_sl rfl rfl rfl | exact sub_refl_val _ _ | (refine sub_int ?_; first | with_reducible rfl | omega | ((try simp only [IntKind.wrap_i64, List.length_append, List.length_cons, List.length_nil, List.length_take, List.length_map, Int.toNat_natCast]); omega) | rfl) | exact sub_sb rfl | exact sub_sbl rfl | exact row_same rfl rfl rfl | exact row_ren rfl rfl rfl | (refine sub_sl rfl rfl ?_; first | with_reducible rfl | omega | ((try simp only [IntKind.wrap_i64, List.length_append, List.length_cons, List.length_nil, List.length_take, List.length_map, Int.toNat_natCast]); omega) | rfl) | exact sub_nil rfl | (refine sub_nil ?_; first | with_reducible rfl | omega | ((try simp only [IntKind.wrap_i64, List.length_append, List.length_cons, List.length_nil, List.length_take, List.length_map, Int.toNat_natCast]); omega) | rfl) | (refine virt_mk ?_; first | with_reducible rfl | omega | ((try simp only [IntKind.wrap_i64, List.length_append, List.length_cons, List.length_nil, List.length_take, List.length_map, Int.toNat_natCast]); omega) | rfl) | apply row_app1 | apply row_app2 | apply row_app1r | refine cells_succ ?_ ?_ | exact cell0 | with_reducible rfl | (refine And.left (b := True) ⟨?_, True.intro⟩; assumption) | (show (_ : Nat) = _; first | with_reducible rfl | omega | ((try simp only [IntKind.wrap_i64, List.length_append, List.length_cons, List.length_nil, List.length_take, List.length_map, Int.toNat_natCast]); omega) | rfl) | refine sub_int ?_ | refine sub_sb ?_ | refine sub_sbl ?_ | refine sub_sl rfl rfl ?_ | (apply row_lit rfl; (focus (refine cells_succ ?_ ?_))) | refine row_same rfl ?_ ?_ | refine row_ren rfl ?_ ?_))))); (any_goals (apply okIx_mk; rfl)))
    | (apply next_sub (Subtype.mk (k + 1) _); (focus (apply le_mk [some 0]; (focus (iterate 2 (all_goals (repeat' (first | exact sub_dead | exact sub_map rfl | exact map_same rfl | exact map_updc rfl | refine map_updc ?_ | refine map_same ?_ | refine map_mk ?_ ?_ | exact subL_nil | exact trivial | (intro Q h; refine h ?_; clear h Q) | refine And.intro ?_ ?_ | refine subL_cons ?_ ?_ | refine sub_agg ?_ | refine sub_tup ?_ | refine sub_fn ?_ | refine var_mk ?_ | refine rd_var ?_ rfl | refine rd_rd ?_ | exact sub_ptr rfl rfl | exact sub_sl rfl rfl rfl | exact sub_refl_val _ _ | (refine sub_int ?_; first | with_reducible rfl | omega | ((try simp only [IntKind.wrap_i64, List.length_append, List.length_cons, List.length_nil, List.length_take, List.length_map, Int.toNat_natCast]); omega) | rfl) | exact sub_sb rfl | exact sub_sbl rfl | exact row_same rfl rfl rfl | exact row_ren rfl rfl rfl | (refine sub_sl rfl rfl ?_; first | with_reducible rfl | omega | ((try simp only [IntKind.wrap_i64, List.length_append, List.length_cons, List.length_nil, List.length_take, List.length_map, Int.toNat_natCast]); omega) | rfl) | exact sub_nil rfl | (refine sub_nil ?_; first | with_reducible rfl | omega | ((try simp only [IntKind.wrap_i64, List.length_append, List.length_cons, List.length_nil, List.length_take, List.length_map, Int.toNat_natCast]); omega) | rfl) | (refine virt_mk ?_; first | with_reducible rfl | omega | ((try simp only [IntKind.wrap_i64, List.length_append, List.length_cons, List.length_nil, List.length_take, List.length_map, Int.toNat_natCast]); omega) | rfl) | apply row_app1 | apply row_app2 | apply row_app1r | refine cells_succ ?_ ?_ | exact cell0 | with_reducible rfl | (refine And.left (b := True) ⟨?_, True.intro⟩; assumption) | (show (_ : Nat) = _; first | with_reducible rfl | omega | ((try simp only [IntKind.wrap_i64, List.length_append, List.length_cons, List.length_nil, List.length_take, List.length_map, Int.toNat_natCast]); omega) | rfl) | refine sub_int ?_ | refine sub_sb ?_ | refine sub_sbl ?_ | refine sub_sl rfl rfl ?_ | (apply row_lit rfl; (focus (refine cells_succ ?_ ?_))) | refine row_same rfl ?_ ?_ | refine row_ren rfl ?_ ?_))))); (any_goals (apply okIx_mk; rfl)))); (all_goals (try (first | omega | (simp only; omega)))))
    | omega))
  all_goals (try dsimp only)
  all_goals first
    | (rw [show (0 + ((k : Int) + 1).toNat) = k + 1 by omega]; rfl)
    | (rw [show k = l.length - 1 by omega]; done)
    | fail
theorem mxN_spec (l : List Int) : ∀ k, k < l.length → mxN l k ∈ l ∧ ∀ i, i ≤ k → l.getD i 0 ≤ mxN l k
  | 0, h => ⟨getD_mem l 0 0 h, fun i hi => by have : i = 0 := by omega
                                              subst this; exact Int.le_refl _⟩
  | k + 1, h => by
    obtain ⟨h1, h2⟩ := mxN_spec l k (by omega)
    simp only [mxN]
    split
    · rename_i hg
      refine ⟨getD_mem l _ 0 h, fun i hi => ?_⟩
      rcases Nat.lt_or_ge i (k + 1) with h3 | h3
      · have := h2 i (by omega); omega
      · have : i = k + 1 := by omega
        subst this; exact Int.le_refl _
    · rename_i hg
      refine ⟨h1, fun i hi => ?_⟩
      rcases Nat.lt_or_ge i (k + 1) with h3 | h3
      · exact h2 i (by omega)
      · have : i = k + 1 := by omega
        subst this; omega
theorem mnN_spec (l : List Int) : ∀ k, k < l.length → mnN l k ∈ l ∧ ∀ i, i ≤ k → mnN l k ≤ l.getD i 0
  | 0, h => ⟨getD_mem l 0 0 h, fun i hi => by have : i = 0 := by omega
                                              subst this; exact Int.le_refl _⟩
  | k + 1, h => by
    obtain ⟨h1, h2⟩ := mnN_spec l k (by omega)
    simp only [mnN]
    split
    · rename_i hg
      refine ⟨getD_mem l _ 0 h, fun i hi => ?_⟩
      rcases Nat.lt_or_ge i (k + 1) with h3 | h3
      · have := h2 i (by omega); omega
      · have : i = k + 1 := by omega
        subst this; exact Int.le_refl _
    · rename_i hg
      refine ⟨h1, fun i hi => ?_⟩
      rcases Nat.lt_or_ge i (k + 1) with h3 | h3
      · exact h2 i (by omega)
      · have : i = k + 1 := by omega
        subst this; omega
/-- A candidate whose interval contains all offsets. -/
def tgC (span : Int) (m : List Int) (i : Nat) (o : Int) : Cd := ⟨100 - i, o, span + (if i < m.length then m.getD i 0 else 0), 0, 2⟩
def tgN (span : Int) (m : List Int) (l : List Int) : Nat → List Cd
  | 0 => []
  | k + 1 => tgN span m l k ++ [tgC span m k (l.getD k 0)]
theorem tgN_len (span : Int) (m l : List Int) : ∀ k, (tgN span m l k).length = k
  | 0 => rfl
  | k + 1 => by simp [tgN, tgN_len span m l k]
def tloN (v : List Iv) : Nat → Int
  | 0 => -4611686018427387904
  | k + 1 => if (v.getD k (0, 0)).1 > tloN v k then (v.getD k (0, 0)).1 else tloN v k
def thiN (v : List Iv) : Nat → Int
  | 0 => 4611686018427387904
  | k + 1 => if (v.getD k (0, 0)).2 < thiN v k then (v.getD k (0, 0)).2 else thiN v k
end Go.Vx.I23

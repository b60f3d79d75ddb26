/- Lemmas of a small executor for the model, and contracts of functions, used for the law that this claim proves. No condition. -/
import Derived.Test.YteefcjenckgaaaaM1
import Derived.Test.YteefcjenckgaaaaW2
set_option linter.unusedSimpArgs false
set_option linter.unusedVariables false
set_option maxRecDepth 100000
namespace Go.Vx.L28
open Go Go.Proofs
theorem cwrap {n : Int} (h1 : -9223372036854775808 ≤ n) (h2 : n ≤ 9223372036854775807) : IntKind.i64.wrap n = n := wrapIn h1 h2
/-- A configuration. -/
structure Cf where
  cap : Int
  gap : Int
  cost : Int
  burst : Int
  kis : Int
/-- What is remembered of a client. -/
structure Rec where
  last : Int
  level : Int
  kissed : Bool
  kiss : Int
abbrev cfA (c : Cf) : AV := .agg [.val (.int .i64 c.cap), .val (.int .i64 c.gap), .val (.int .i64 c.cost), .val (.int .i64 c.burst), .val (.int .i64 c.kis)]
abbrev recA (r : Rec) : AV := .agg [.val (.int .i64 r.last), .val (.int .i64 r.level), .sb r.kissed, .val (.int .i64 r.kiss)]
theorem recA_flat {g : List Int → Rec} : ∀ x, FlatA (recA (g x)) := fun x => ⟨_, rfl, fun u hu => by simp at hu; rcases hu with rfl | rfl | rfl | rfl <;> trivial⟩
abbrev recB (r : Rec) : Blk := .var [.val (.int .i64 r.last), .val (.int .i64 r.level), .sb r.kissed, .val (.int .i64 r.kiss)]
def cfOK (c : Cf) : Bool := decide (1 ≤ c.cap ∧ c.cap ≤ 64 ∧ 0 ≤ c.gap ∧ c.gap ≤ 1000000000000 ∧ 1 ≤ c.cost ∧ c.cost ≤ 1000000000000 ∧ c.cost ≤ c.burst ∧ c.burst ≤ 10000000000000 ∧ 0 ≤ c.kis ∧ c.kis ≤ 1000000000000)
def cfE (c : Cf) : Int := if cfOK c then 0 else 3
theorem within_ok (n a b : Int) : Runs Try.prog 22 [.val (.int .i64 n), .val (.int .i64 a), .val (.int .i64 b)] [] (Det (.sb (decide (a ≤ n ∧ n ≤ b))) []) := by
  refine Runs.mk tabOK Try.call22 Try.func22 rfl Try.ntmps22 Try.results22 rfl ?_
  (repeat' (first
    | (intro Q h; refine h ?_; clear h Q)
    | (with_reducible refine bcase_true ?_)
    | (with_reducible refine bcase_false ?_)
    | (refine bcase_mk (fun hb => ?_) (fun hb => ?_) <;> (try simp only [decide_eq_true_eq, decide_eq_false_iff_not, beq_iff_eq, beq_eq_false_iff_ne, bne_iff_ne, bne_eq_false_iff_eq, Bool.not_eq_true', Bool.not_eq_false', Bool.and_eq_true, Bool.or_eq_true, ne_eq, Int.not_lt, Int.not_le, eq_self, not_true_eq_false, not_false_eq_true, reduceCtorEq, Bool.and_true, Bool.true_and, beq_self_eq_true, bne_self_eq_false, Bool.false_eq_true, Bool.and_false, Bool.not_true, Bool.not_false] at hb))
    | refine rng_mk (fun es clock => ?_)
    | refine nxt_mk rfl rfl rfl (fun hend => ?_) (kz_all (fun n hn hkS => ?_))
    | refine ent_mk rfl rfl rfl ?_
    | refine nil_mk (fun hz => ?_) ?_
    | refine draw_mk (by decide +kernel) ?_
    | refine seq_go ?_
    | refine And.intro (by first | omega | ((try simp only [IntKind.wrap_i64, List.length_append, List.length_cons, List.length_nil, List.length_take, List.length_map, Int.toNat_natCast]); omega) | rfl | decide) ?_
    | (apply ret_mk []; (focus (iterate 2 (all_goals (repeat' (first | exact sub_dead | exact mapa_same recA_flat rfl (fun _ _ => rfl) | exact mapa_ren recA_flat rfl (fun _ _ => rfl) | exact mapa_of recA_flat rfl (fun _ _ => rfl) | exact mapga_same recA_flat | exact iter_same rfl rfl | refine iter_same rfl ?_ | exact sub_map rfl | exact map_same rfl | exact map_updc rfl | refine map_updc ?_ | refine map_same ?_ | refine map_mk ?_ ?_ | exact subL_nil | exact trivial | (intro Q h; refine h ?_; clear h Q) | refine And.intro ?_ ?_ | refine subL_cons ?_ ?_ | refine sub_agg ?_ | refine sub_tup ?_ | refine sub_fn ?_ | refine var_mk ?_ | refine rd_var ?_ rfl | refine rd_rd ?_ | exact sub_ptr rfl rfl | exact sub_sl rfl rfl rfl | exact sub_refl_val _ _ | (refine sub_int ?_; first | with_reducible rfl | omega | ((try simp only [IntKind.wrap_i64, List.length_append, List.length_cons, List.length_nil, List.length_take, List.length_map, Int.toNat_natCast]); omega) | rfl) | exact sub_sb rfl | exact sub_sbl rfl | exact row_same rfl rfl rfl | exact row_ren rfl rfl rfl | (refine sub_sl rfl rfl ?_; first | with_reducible rfl | omega | ((try simp only [IntKind.wrap_i64, List.length_append, List.length_cons, List.length_nil, List.length_take, List.length_map, Int.toNat_natCast]); omega) | rfl) | exact sub_nil rfl | (refine sub_nil ?_; first | with_reducible rfl | omega | ((try simp only [IntKind.wrap_i64, List.length_append, List.length_cons, List.length_nil, List.length_take, List.length_map, Int.toNat_natCast]); omega) | rfl) | (refine virt_mk ?_; first | with_reducible rfl | omega | ((try simp only [IntKind.wrap_i64, List.length_append, List.length_cons, List.length_nil, List.length_take, List.length_map, Int.toNat_natCast]); omega) | rfl) | apply row_app1 | apply row_app2 | apply row_app1r | refine cells_succ ?_ ?_ | exact cell0 | with_reducible rfl | (refine And.left (b := True) ⟨?_, True.intro⟩; assumption) | (show (_ : Nat) = _; first | with_reducible rfl | omega | ((try simp only [IntKind.wrap_i64, List.length_append, List.length_cons, List.length_nil, List.length_take, List.length_map, Int.toNat_natCast]); omega) | rfl) | refine sub_int ?_ | refine sub_sb ?_ | refine sub_sbl ?_ | refine sub_sl rfl rfl ?_ | (apply row_lit rfl; (focus (refine cells_succ ?_ ?_))) | refine row_same rfl ?_ ?_ | refine row_ren rfl ?_ ?_))))); (any_goals (apply okIx_mk; rfl)))
    | omega))
  all_goals (simp_all <;> omega)
theorem check_ok (c : Cf) : Runs Try.prog 10 [cfA c] [] (Det (.val (.int .i64 (cfE c))) []) := by
  refine Runs.mk tabOK Try.call10 Try.func10 rfl Try.ntmps10 Try.results10 rfl ?_
  (repeat' (first
    | (intro Q h; refine h ?_; clear h Q)
    | (with_reducible refine bcase_true ?_)
    | (with_reducible refine bcase_false ?_)
    | (refine bcase_mk (fun hb => ?_) (fun hb => ?_) <;> (try simp only [decide_eq_true_eq, decide_eq_false_iff_not, beq_iff_eq, beq_eq_false_iff_ne, bne_iff_ne, bne_eq_false_iff_eq, Bool.not_eq_true', Bool.not_eq_false', Bool.and_eq_true, Bool.or_eq_true, ne_eq, Int.not_lt, Int.not_le, eq_self, not_true_eq_false, not_false_eq_true, reduceCtorEq, Bool.and_true, Bool.true_and, beq_self_eq_true, bne_self_eq_false, Bool.false_eq_true, Bool.and_false, Bool.not_true, Bool.not_false] at hb))
    | refine rng_mk (fun es clock => ?_)
    | refine nxt_mk rfl rfl rfl (fun hend => ?_) (kz_all (fun n hn hkS => ?_))
    | refine ent_mk rfl rfl rfl ?_
    | refine nil_mk (fun hz => ?_) ?_
    | refine draw_mk (by decide +kernel) ?_
    | refine seq_go ?_
    | refine And.intro (by first | omega | ((try simp only [IntKind.wrap_i64, List.length_append, List.length_cons, List.length_nil, List.length_take, List.length_map, Int.toNat_natCast]); omega) | rfl | decide) ?_
    | ((first | apply call0 (within_ok _ _ _) | apply calld0 (within_ok _ _ _)); (focus (iterate 2 (all_goals (repeat' (first | exact sub_dead | exact mapa_same recA_flat rfl (fun _ _ => rfl) | exact mapa_ren recA_flat rfl (fun _ _ => rfl) | exact mapa_of recA_flat rfl (fun _ _ => rfl) | exact mapga_same recA_flat | exact iter_same rfl rfl | refine iter_same rfl ?_ | exact sub_map rfl | exact map_same rfl | exact map_updc rfl | refine map_updc ?_ | refine map_same ?_ | refine map_mk ?_ ?_ | exact subL_nil | exact trivial | (intro Q h; refine h ?_; clear h Q) | refine And.intro ?_ ?_ | refine subL_cons ?_ ?_ | refine sub_agg ?_ | refine sub_tup ?_ | refine sub_fn ?_ | refine var_mk ?_ | refine rd_var ?_ rfl | refine rd_rd ?_ | exact sub_ptr rfl rfl | exact sub_sl rfl rfl rfl | exact sub_refl_val _ _ | (refine sub_int ?_; first | with_reducible rfl | omega | ((try simp only [IntKind.wrap_i64, List.length_append, List.length_cons, List.length_nil, List.length_take, List.length_map, Int.toNat_natCast]); omega) | rfl) | exact sub_sb rfl | exact sub_sbl rfl | exact row_same rfl rfl rfl | exact row_ren rfl rfl rfl | (refine sub_sl rfl rfl ?_; first | with_reducible rfl | omega | ((try simp only [IntKind.wrap_i64, List.length_append, List.length_cons, List.length_nil, List.length_take, List.length_map, Int.toNat_natCast]); omega) | rfl) | exact sub_nil rfl | (refine sub_nil ?_; first | with_reducible rfl | omega | ((try simp only [IntKind.wrap_i64, List.length_append, List.length_cons, List.length_nil, List.length_take, List.length_map, Int.toNat_natCast]); omega) | rfl) | (refine virt_mk ?_; first | with_reducible rfl | omega | ((try simp only [IntKind.wrap_i64, List.length_append, List.length_cons, List.length_nil, List.length_take, List.length_map, Int.toNat_natCast]); omega) | rfl) | apply row_app1 | apply row_app2 | apply row_app1r | refine cells_succ ?_ ?_ | exact cell0 | with_reducible rfl | (refine And.left (b := True) ⟨?_, True.intro⟩; assumption) | (show (_ : Nat) = _; first | with_reducible rfl | omega | ((try simp only [IntKind.wrap_i64, List.length_append, List.length_cons, List.length_nil, List.length_take, List.length_map, Int.toNat_natCast]); omega) | rfl) | refine sub_int ?_ | refine sub_sb ?_ | refine sub_sbl ?_ | refine sub_sl rfl rfl ?_ | (apply row_lit rfl; (focus (refine cells_succ ?_ ?_))) | refine row_same rfl ?_ ?_ | refine row_ren rfl ?_ ?_))))))
    | (apply ret_mk []; (focus (iterate 2 (all_goals (repeat' (first | exact sub_dead | exact mapa_same recA_flat rfl (fun _ _ => rfl) | exact mapa_ren recA_flat rfl (fun _ _ => rfl) | exact mapa_of recA_flat rfl (fun _ _ => rfl) | exact mapga_same recA_flat | exact iter_same rfl rfl | refine iter_same rfl ?_ | exact sub_map rfl | exact map_same rfl | exact map_updc rfl | refine map_updc ?_ | refine map_same ?_ | refine map_mk ?_ ?_ | exact subL_nil | exact trivial | (intro Q h; refine h ?_; clear h Q) | refine And.intro ?_ ?_ | refine subL_cons ?_ ?_ | refine sub_agg ?_ | refine sub_tup ?_ | refine sub_fn ?_ | refine var_mk ?_ | refine rd_var ?_ rfl | refine rd_rd ?_ | exact sub_ptr rfl rfl | exact sub_sl rfl rfl rfl | exact sub_refl_val _ _ | (refine sub_int ?_; first | with_reducible rfl | omega | ((try simp only [IntKind.wrap_i64, List.length_append, List.length_cons, List.length_nil, List.length_take, List.length_map, Int.toNat_natCast]); omega) | rfl) | exact sub_sb rfl | exact sub_sbl rfl | exact row_same rfl rfl rfl | exact row_ren rfl rfl rfl | (refine sub_sl rfl rfl ?_; first | with_reducible rfl | omega | ((try simp only [IntKind.wrap_i64, List.length_append, List.length_cons, List.length_nil, List.length_take, List.length_map, Int.toNat_natCast]); omega) | rfl) | exact sub_nil rfl | (refine sub_nil ?_; first | with_reducible rfl | omega | ((try simp only [IntKind.wrap_i64, List.length_append, List.length_cons, List.length_nil, List.length_take, List.length_map, Int.toNat_natCast]); omega) | rfl) | (refine virt_mk ?_; first | with_reducible rfl | omega | ((try simp only [IntKind.wrap_i64, List.length_append, List.length_cons, List.length_nil, List.length_take, List.length_map, Int.toNat_natCast]); omega) | rfl) | apply row_app1 | apply row_app2 | apply row_app1r | refine cells_succ ?_ ?_ | exact cell0 | with_reducible rfl | (refine And.left (b := True) ⟨?_, True.intro⟩; assumption) | (show (_ : Nat) = _; first | with_reducible rfl | omega | ((try simp only [IntKind.wrap_i64, List.length_append, List.length_cons, List.length_nil, List.length_take, List.length_map, Int.toNat_natCast]); omega) | rfl) | refine sub_int ?_ | refine sub_sb ?_ | refine sub_sbl ?_ | refine sub_sl rfl rfl ?_ | (apply row_lit rfl; (focus (refine cells_succ ?_ ?_))) | refine row_same rfl ?_ ?_ | refine row_ren rfl ?_ ?_))))); (any_goals (apply okIx_mk; rfl)))
    | omega))
  all_goals (simp_all [cfE, cfOK] <;> omega)
theorem rcheck_ok (c : Cf) : Runs Try.prog 11 [cfA c] [] (Det (.val (.int .i64 (cfE c))) []) := by
  refine Runs.mk tabOK Try.call11 Try.func11 rfl Try.ntmps11 Try.results11 rfl ?_
  (repeat' (first
    | (intro Q h; refine h ?_; clear h Q)
    | (with_reducible refine bcase_true ?_)
    | (with_reducible refine bcase_false ?_)
    | (refine bcase_mk (fun hb => ?_) (fun hb => ?_) <;> (try simp only [decide_eq_true_eq, decide_eq_false_iff_not, beq_iff_eq, beq_eq_false_iff_ne, bne_iff_ne, bne_eq_false_iff_eq, Bool.not_eq_true', Bool.not_eq_false', Bool.and_eq_true, Bool.or_eq_true, ne_eq, Int.not_lt, Int.not_le, eq_self, not_true_eq_false, not_false_eq_true, reduceCtorEq, Bool.and_true, Bool.true_and, beq_self_eq_true, bne_self_eq_false, Bool.false_eq_true, Bool.and_false, Bool.not_true, Bool.not_false] at hb))
    | refine rng_mk (fun es clock => ?_)
    | refine nxt_mk rfl rfl rfl (fun hend => ?_) (kz_all (fun n hn hkS => ?_))
    | refine ent_mk rfl rfl rfl ?_
    | refine nil_mk (fun hz => ?_) ?_
    | refine draw_mk (by decide +kernel) ?_
    | refine seq_go ?_
    | refine And.intro (by first | omega | ((try simp only [IntKind.wrap_i64, List.length_append, List.length_cons, List.length_nil, List.length_take, List.length_map, Int.toNat_natCast]); omega) | rfl | decide) ?_
    | (apply ret_mk []; (focus (iterate 2 (all_goals (repeat' (first | exact sub_dead | exact mapa_same recA_flat rfl (fun _ _ => rfl) | exact mapa_ren recA_flat rfl (fun _ _ => rfl) | exact mapa_of recA_flat rfl (fun _ _ => rfl) | exact mapga_same recA_flat | exact iter_same rfl rfl | refine iter_same rfl ?_ | exact sub_map rfl | exact map_same rfl | exact map_updc rfl | refine map_updc ?_ | refine map_same ?_ | refine map_mk ?_ ?_ | exact subL_nil | exact trivial | (intro Q h; refine h ?_; clear h Q) | refine And.intro ?_ ?_ | refine subL_cons ?_ ?_ | refine sub_agg ?_ | refine sub_tup ?_ | refine sub_fn ?_ | refine var_mk ?_ | refine rd_var ?_ rfl | refine rd_rd ?_ | exact sub_ptr rfl rfl | exact sub_sl rfl rfl rfl | exact sub_refl_val _ _ | (refine sub_int ?_; first | with_reducible rfl | omega | ((try simp only [IntKind.wrap_i64, List.length_append, List.length_cons, List.length_nil, List.length_take, List.length_map, Int.toNat_natCast]); omega) | rfl) | exact sub_sb rfl | exact sub_sbl rfl | exact row_same rfl rfl rfl | exact row_ren rfl rfl rfl | (refine sub_sl rfl rfl ?_; first | with_reducible rfl | omega | ((try simp only [IntKind.wrap_i64, List.length_append, List.length_cons, List.length_nil, List.length_take, List.length_map, Int.toNat_natCast]); omega) | rfl) | exact sub_nil rfl | (refine sub_nil ?_; first | with_reducible rfl | omega | ((try simp only [IntKind.wrap_i64, List.length_append, List.length_cons, List.length_nil, List.length_take, List.length_map, Int.toNat_natCast]); omega) | rfl) | (refine virt_mk ?_; first | with_reducible rfl | omega | ((try simp only [IntKind.wrap_i64, List.length_append, List.length_cons, List.length_nil, List.length_take, List.length_map, Int.toNat_natCast]); omega) | rfl) | apply row_app1 | apply row_app2 | apply row_app1r | refine cells_succ ?_ ?_ | exact cell0 | with_reducible rfl | (refine And.left (b := True) ⟨?_, True.intro⟩; assumption) | (show (_ : Nat) = _; first | with_reducible rfl | omega | ((try simp only [IntKind.wrap_i64, List.length_append, List.length_cons, List.length_nil, List.length_take, List.length_map, Int.toNat_natCast]); omega) | rfl) | refine sub_int ?_ | refine sub_sb ?_ | refine sub_sbl ?_ | refine sub_sl rfl rfl ?_ | (apply row_lit rfl; (focus (refine cells_succ ?_ ?_))) | refine row_same rfl ?_ ?_ | refine row_ren rfl ?_ ?_))))); (any_goals (apply okIx_mk; rfl)))
    | omega))
  all_goals (simp_all [cfE, cfOK] <;> omega)
/-- The program's limiter. -/
structure PS where
  now : Int
  ks : List Int
  g : Int → Rec
abbrev kz (ks : List Int) : List (List Int) := ks.map fun n => [n]
abbrev memB (c : Cf) (s : PS) : Blk := .var [.val (.int .i64 c.cap), .val (.int .i64 c.gap), .val (.int .i64 c.cost), .val (.int .i64 c.burst), .val (.int .i64 c.kis), .val (.int .i64 s.now), .map 1]
abbrev mapB (s : PS) : Blk := .map none (kz s.ks) fun k => recA (s.g (k.headD 0))
abbrev memR (c : Cf) : Blk := rdV 49 7 [.val (.int .i64 c.cap), .val (.int .i64 c.gap), .val (.int .i64 c.cost), .val (.int .i64 c.burst), .val (.int .i64 c.kis), .dead, .dead]
def rec0 : Rec := ⟨0, 0, false, 0⟩
def PS0 : PS := ⟨0, [], fun _ => rec0⟩
theorem new_ok (c : Cf) (h : cfOK c = true) : Runs Try.prog 12 [cfA c] [] (Det (.ptr 0 7 0 0) [memB c PS0, mapB PS0]) := by
  refine Runs.mk tabOK Try.call12 Try.func12 rfl Try.ntmps12 Try.results12 rfl ?_
  have he : cfE c = 0 := by simp [cfE, h]
  (repeat' (first
    | (intro Q h; refine h ?_; clear h Q)
    | (with_reducible refine bcase_true ?_)
    | (with_reducible refine bcase_false ?_)
    | (refine bcase_mk (fun hb => ?_) (fun hb => ?_) <;> (try simp only [decide_eq_true_eq, decide_eq_false_iff_not, beq_iff_eq, beq_eq_false_iff_ne, bne_iff_ne, bne_eq_false_iff_eq, Bool.not_eq_true', Bool.not_eq_false', Bool.and_eq_true, Bool.or_eq_true, ne_eq, Int.not_lt, Int.not_le, eq_self, not_true_eq_false, not_false_eq_true, reduceCtorEq, Bool.and_true, Bool.true_and, beq_self_eq_true, bne_self_eq_false, Bool.false_eq_true, Bool.and_false, Bool.not_true, Bool.not_false] at hb))
    | refine rng_mk (fun es clock => ?_)
    | refine nxt_mk rfl rfl rfl (fun hend => ?_) (kz_all (fun n hn hkS => ?_))
    | refine ent_mk rfl rfl rfl ?_
    | refine nil_mk (fun hz => ?_) ?_
    | refine draw_mk (by decide +kernel) ?_
    | refine seq_go ?_
    | refine And.intro (by first | omega | ((try simp only [IntKind.wrap_i64, List.length_append, List.length_cons, List.length_nil, List.length_take, List.length_map, Int.toNat_natCast]); omega) | rfl | decide) ?_
    | ((first | apply call0 (check_ok _) | apply calld0 (check_ok _)); (focus (iterate 2 (all_goals (repeat' (first | exact sub_dead | exact mapa_same recA_flat rfl (fun _ _ => rfl) | exact mapa_ren recA_flat rfl (fun _ _ => rfl) | exact mapa_of recA_flat rfl (fun _ _ => rfl) | exact mapga_same recA_flat | exact iter_same rfl rfl | refine iter_same rfl ?_ | exact sub_map rfl | exact map_same rfl | exact map_updc rfl | refine map_updc ?_ | refine map_same ?_ | refine map_mk ?_ ?_ | exact subL_nil | exact trivial | (intro Q h; refine h ?_; clear h Q) | refine And.intro ?_ ?_ | refine subL_cons ?_ ?_ | refine sub_agg ?_ | refine sub_tup ?_ | refine sub_fn ?_ | refine var_mk ?_ | refine rd_var ?_ rfl | refine rd_rd ?_ | exact sub_ptr rfl rfl | exact sub_sl rfl rfl rfl | exact sub_refl_val _ _ | (refine sub_int ?_; first | with_reducible rfl | omega | ((try simp only [IntKind.wrap_i64, List.length_append, List.length_cons, List.length_nil, List.length_take, List.length_map, Int.toNat_natCast]); omega) | rfl) | exact sub_sb rfl | exact sub_sbl rfl | exact row_same rfl rfl rfl | exact row_ren rfl rfl rfl | (refine sub_sl rfl rfl ?_; first | with_reducible rfl | omega | ((try simp only [IntKind.wrap_i64, List.length_append, List.length_cons, List.length_nil, List.length_take, List.length_map, Int.toNat_natCast]); omega) | rfl) | exact sub_nil rfl | (refine sub_nil ?_; first | with_reducible rfl | omega | ((try simp only [IntKind.wrap_i64, List.length_append, List.length_cons, List.length_nil, List.length_take, List.length_map, Int.toNat_natCast]); omega) | rfl) | (refine virt_mk ?_; first | with_reducible rfl | omega | ((try simp only [IntKind.wrap_i64, List.length_append, List.length_cons, List.length_nil, List.length_take, List.length_map, Int.toNat_natCast]); omega) | rfl) | apply row_app1 | apply row_app2 | apply row_app1r | refine cells_succ ?_ ?_ | exact cell0 | with_reducible rfl | (refine And.left (b := True) ⟨?_, True.intro⟩; assumption) | (show (_ : Nat) = _; first | with_reducible rfl | omega | ((try simp only [IntKind.wrap_i64, List.length_append, List.length_cons, List.length_nil, List.length_take, List.length_map, Int.toNat_natCast]); omega) | rfl) | refine sub_int ?_ | refine sub_sb ?_ | refine sub_sbl ?_ | refine sub_sl rfl rfl ?_ | (apply row_lit rfl; (focus (refine cells_succ ?_ ?_))) | refine row_same rfl ?_ ?_ | refine row_ren rfl ?_ ?_))))))
    | (exfalso; omega)
    | (apply ret_mk [some 2, some 1]; (focus (iterate 2 (all_goals (repeat' (first | exact sub_dead | exact mapa_same recA_flat rfl (fun _ _ => rfl) | exact mapa_ren recA_flat rfl (fun _ _ => rfl) | exact mapa_of recA_flat rfl (fun _ _ => rfl) | exact mapga_same recA_flat | exact iter_same rfl rfl | refine iter_same rfl ?_ | exact sub_map rfl | exact map_same rfl | exact map_updc rfl | refine map_updc ?_ | refine map_same ?_ | refine map_mk ?_ ?_ | exact subL_nil | exact trivial | (intro Q h; refine h ?_; clear h Q) | refine And.intro ?_ ?_ | refine subL_cons ?_ ?_ | refine sub_agg ?_ | refine sub_tup ?_ | refine sub_fn ?_ | refine var_mk ?_ | refine rd_var ?_ rfl | refine rd_rd ?_ | exact sub_ptr rfl rfl | exact sub_sl rfl rfl rfl | exact sub_refl_val _ _ | (refine sub_int ?_; first | with_reducible rfl | omega | ((try simp only [IntKind.wrap_i64, List.length_append, List.length_cons, List.length_nil, List.length_take, List.length_map, Int.toNat_natCast]); omega) | rfl) | exact sub_sb rfl | exact sub_sbl rfl | exact row_same rfl rfl rfl | exact row_ren rfl rfl rfl | (refine sub_sl rfl rfl ?_; first | with_reducible rfl | omega | ((try simp only [IntKind.wrap_i64, List.length_append, List.length_cons, List.length_nil, List.length_take, List.length_map, Int.toNat_natCast]); omega) | rfl) | exact sub_nil rfl | (refine sub_nil ?_; first | with_reducible rfl | omega | ((try simp only [IntKind.wrap_i64, List.length_append, List.length_cons, List.length_nil, List.length_take, List.length_map, Int.toNat_natCast]); omega) | rfl) | (refine virt_mk ?_; first | with_reducible rfl | omega | ((try simp only [IntKind.wrap_i64, List.length_append, List.length_cons, List.length_nil, List.length_take, List.length_map, Int.toNat_natCast]); omega) | rfl) | apply row_app1 | apply row_app2 | apply row_app1r | refine cells_succ ?_ ?_ | exact cell0 | with_reducible rfl | (refine And.left (b := True) ⟨?_, True.intro⟩; assumption) | (show (_ : Nat) = _; first | with_reducible rfl | omega | ((try simp only [IntKind.wrap_i64, List.length_append, List.length_cons, List.length_nil, List.length_take, List.length_map, Int.toNat_natCast]); omega) | rfl) | refine sub_int ?_ | refine sub_sb ?_ | refine sub_sbl ?_ | refine sub_sl rfl rfl ?_ | (apply row_lit rfl; (focus (refine cells_succ ?_ ?_))) | refine row_same rfl ?_ ?_ | refine row_ren rfl ?_ ?_))))); (any_goals (apply okIx_mk; rfl)))
    | omega))
  all_goals first | rfl | (intro x hx; cases hx)
theorem new_nil (c : Cf) (h : cfOK c = false) : Runs Try.prog 12 [cfA c] [] (Det (.val (.pointer none)) []) := by
  refine Runs.mk tabOK Try.call12 Try.func12 rfl Try.ntmps12 Try.results12 rfl ?_
  have he : cfE c = 3 := by simp [cfE, h]
  (repeat' (first
    | (intro Q h; refine h ?_; clear h Q)
    | (with_reducible refine bcase_true ?_)
    | (with_reducible refine bcase_false ?_)
    | (refine bcase_mk (fun hb => ?_) (fun hb => ?_) <;> (try simp only [decide_eq_true_eq, decide_eq_false_iff_not, beq_iff_eq, beq_eq_false_iff_ne, bne_iff_ne, bne_eq_false_iff_eq, Bool.not_eq_true', Bool.not_eq_false', Bool.and_eq_true, Bool.or_eq_true, ne_eq, Int.not_lt, Int.not_le, eq_self, not_true_eq_false, not_false_eq_true, reduceCtorEq, Bool.and_true, Bool.true_and, beq_self_eq_true, bne_self_eq_false, Bool.false_eq_true, Bool.and_false, Bool.not_true, Bool.not_false] at hb))
    | refine rng_mk (fun es clock => ?_)
    | refine nxt_mk rfl rfl rfl (fun hend => ?_) (kz_all (fun n hn hkS => ?_))
    | refine ent_mk rfl rfl rfl ?_
    | refine nil_mk (fun hz => ?_) ?_
    | refine draw_mk (by decide +kernel) ?_
    | refine seq_go ?_
    | refine And.intro (by first | omega | ((try simp only [IntKind.wrap_i64, List.length_append, List.length_cons, List.length_nil, List.length_take, List.length_map, Int.toNat_natCast]); omega) | rfl | decide) ?_
    | ((first | apply call0 (check_ok _) | apply calld0 (check_ok _)); (focus (iterate 2 (all_goals (repeat' (first | exact sub_dead | exact mapa_same recA_flat rfl (fun _ _ => rfl) | exact mapa_ren recA_flat rfl (fun _ _ => rfl) | exact mapa_of recA_flat rfl (fun _ _ => rfl) | exact mapga_same recA_flat | exact iter_same rfl rfl | refine iter_same rfl ?_ | exact sub_map rfl | exact map_same rfl | exact map_updc rfl | refine map_updc ?_ | refine map_same ?_ | refine map_mk ?_ ?_ | exact subL_nil | exact trivial | (intro Q h; refine h ?_; clear h Q) | refine And.intro ?_ ?_ | refine subL_cons ?_ ?_ | refine sub_agg ?_ | refine sub_tup ?_ | refine sub_fn ?_ | refine var_mk ?_ | refine rd_var ?_ rfl | refine rd_rd ?_ | exact sub_ptr rfl rfl | exact sub_sl rfl rfl rfl | exact sub_refl_val _ _ | (refine sub_int ?_; first | with_reducible rfl | omega | ((try simp only [IntKind.wrap_i64, List.length_append, List.length_cons, List.length_nil, List.length_take, List.length_map, Int.toNat_natCast]); omega) | rfl) | exact sub_sb rfl | exact sub_sbl rfl | exact row_same rfl rfl rfl | exact row_ren rfl rfl rfl | (refine sub_sl rfl rfl ?_; first | with_reducible rfl | omega | ((try simp only [IntKind.wrap_i64, List.length_append, List.length_cons, List.length_nil, List.length_take, List.length_map, Int.toNat_natCast]); omega) | rfl) | exact sub_nil rfl | (refine sub_nil ?_; first | with_reducible rfl | omega | ((try simp only [IntKind.wrap_i64, List.length_append, List.length_cons, List.length_nil, List.length_take, List.length_map, Int.toNat_natCast]); omega) | rfl) | (refine virt_mk ?_; first | with_reducible rfl | omega | ((try simp only [IntKind.wrap_i64, List.length_append, List.length_cons, List.length_nil, List.length_take, List.length_map, Int.toNat_natCast]); omega) | rfl) | apply row_app1 | apply row_app2 | apply row_app1r | refine cells_succ ?_ ?_ | exact cell0 | with_reducible rfl | (refine And.left (b := True) ⟨?_, True.intro⟩; assumption) | (show (_ : Nat) = _; first | with_reducible rfl | omega | ((try simp only [IntKind.wrap_i64, List.length_append, List.length_cons, List.length_nil, List.length_take, List.length_map, Int.toNat_natCast]); omega) | rfl) | refine sub_int ?_ | refine sub_sb ?_ | refine sub_sbl ?_ | refine sub_sl rfl rfl ?_ | (apply row_lit rfl; (focus (refine cells_succ ?_ ?_))) | refine row_same rfl ?_ ?_ | refine row_ren rfl ?_ ?_))))))
    | (exfalso; omega)
    | (apply ret_mk []; (focus (iterate 2 (all_goals (repeat' (first | exact sub_dead | exact mapa_same recA_flat rfl (fun _ _ => rfl) | exact mapa_ren recA_flat rfl (fun _ _ => rfl) | exact mapa_of recA_flat rfl (fun _ _ => rfl) | exact mapga_same recA_flat | exact iter_same rfl rfl | refine iter_same rfl ?_ | exact sub_map rfl | exact map_same rfl | exact map_updc rfl | refine map_updc ?_ | refine map_same ?_ | refine map_mk ?_ ?_ | exact subL_nil | exact trivial | (intro Q h; refine h ?_; clear h Q) | refine And.intro ?_ ?_ | refine subL_cons ?_ ?_ | refine sub_agg ?_ | refine sub_tup ?_ | refine sub_fn ?_ | refine var_mk ?_ | refine rd_var ?_ rfl | refine rd_rd ?_ | exact sub_ptr rfl rfl | exact sub_sl rfl rfl rfl | exact sub_refl_val _ _ | (refine sub_int ?_; first | with_reducible rfl | omega | ((try simp only [IntKind.wrap_i64, List.length_append, List.length_cons, List.length_nil, List.length_take, List.length_map, Int.toNat_natCast]); omega) | rfl) | exact sub_sb rfl | exact sub_sbl rfl | exact row_same rfl rfl rfl | exact row_ren rfl rfl rfl | (refine sub_sl rfl rfl ?_; first | with_reducible rfl | omega | ((try simp only [IntKind.wrap_i64, List.length_append, List.length_cons, List.length_nil, List.length_take, List.length_map, Int.toNat_natCast]); omega) | rfl) | exact sub_nil rfl | (refine sub_nil ?_; first | with_reducible rfl | omega | ((try simp only [IntKind.wrap_i64, List.length_append, List.length_cons, List.length_nil, List.length_take, List.length_map, Int.toNat_natCast]); omega) | rfl) | (refine virt_mk ?_; first | with_reducible rfl | omega | ((try simp only [IntKind.wrap_i64, List.length_append, List.length_cons, List.length_nil, List.length_take, List.length_map, Int.toNat_natCast]); omega) | rfl) | apply row_app1 | apply row_app2 | apply row_app1r | refine cells_succ ?_ ?_ | exact cell0 | with_reducible rfl | (refine And.left (b := True) ⟨?_, True.intro⟩; assumption) | (show (_ : Nat) = _; first | with_reducible rfl | omega | ((try simp only [IntKind.wrap_i64, List.length_append, List.length_cons, List.length_nil, List.length_take, List.length_map, Int.toNat_natCast]); omega) | rfl) | refine sub_int ?_ | refine sub_sb ?_ | refine sub_sbl ?_ | refine sub_sl rfl rfl ?_ | (apply row_lit rfl; (focus (refine cells_succ ?_ ?_))) | refine row_same rfl ?_ ?_ | refine row_ren rfl ?_ ?_))))); (any_goals (apply okIx_mk; rfl)))
    | omega))
/-- The verdict on a request of a known client, and what is remembered of it. -/
def judgeF (c : Cf) (r : Rec) (at_ : Int) : Int × Rec :=
  let lv := max 0 (r.level - (at_ - r.last))
  if c.gap ≤ at_ - r.last ∧ lv + c.cost ≤ c.burst then (0, ⟨at_, lv + c.cost, r.kissed, r.kiss⟩)
  else if r.kissed = true ∧ at_ - r.kiss < c.kis then (1, ⟨at_, lv, r.kissed, r.kiss⟩)
  else (2, ⟨at_, lv, true, at_⟩)
theorem judge_pass {c : Cf} {r : Rec} {t : Int} (h1 : c.gap ≤ t - r.last) (h2 : max 0 (r.level - (t - r.last)) + c.cost ≤ c.burst) : judgeF c r t = (0, ⟨t, max 0 (r.level - (t - r.last)) + c.cost, r.kissed, r.kiss⟩) := if_pos ⟨h1, h2⟩
theorem judge_drop {c : Cf} {r : Rec} {t : Int} (h : ¬ (c.gap ≤ t - r.last ∧ max 0 (r.level - (t - r.last)) + c.cost ≤ c.burst)) (h1 : r.kissed = true) (h2 : t - r.kiss < c.kis) : judgeF c r t = (1, ⟨t, max 0 (r.level - (t - r.last)), r.kissed, r.kiss⟩) := by
  simp only [judgeF]; rw [if_neg h, if_pos ⟨h1, h2⟩]
theorem judge_kiss {c : Cf} {r : Rec} {t : Int} (h : ¬ (c.gap ≤ t - r.last ∧ max 0 (r.level - (t - r.last)) + c.cost ≤ c.burst)) (h1 : r.kissed = true → c.kis ≤ t - r.kiss) : judgeF c r t = (2, ⟨t, max 0 (r.level - (t - r.last)), true, t⟩) := by
  simp only [judgeF]; rw [if_neg h, if_neg (fun q => by have := h1 q.1; omega)]
/-- What holds of what is remembered. -/
def recOK (c : Cf) (r : Rec) (now : Int) : Prop := 0 ≤ r.last ∧ r.last ≤ now ∧ 0 ≤ r.level ∧ r.level ≤ c.burst ∧ 0 ≤ r.kiss ∧ r.kiss ≤ now
set_option maxHeartbeats 2000000 in
theorem judge_ok (c : Cf) (r : Rec) (t : Int) (hc : cfOK c = true) (hr : recOK c r t) (ht : t ≤ 1125899906842624) :
    Runs Try.prog 24 [.ptr 0 7 0 0, .ptr 1 4 0 0, .val (.int .i64 t)] [memR c, recB r] (Det (.val (.int .i64 (judgeF c r t).1)) [memR c, recB (judgeF c r t).2]) := by
  obtain ⟨q1, q2, q3, q4, q5, q6⟩ := hr
  simp only [cfOK, decide_eq_true_eq] at hc
  have w1 : IntKind.i64.wrap (t - r.last) = t - r.last := cwrap (by omega) (by omega)
  have w2 : IntKind.i64.wrap (r.level - (t - r.last)) = r.level - (t - r.last) := cwrap (by omega) (by omega)
  have hm : (if r.level - (t - r.last) > 0 then r.level - (t - r.last) else 0) = max 0 (r.level - (t - r.last)) := by split <;> omega
  have w3 : IntKind.i64.wrap (max 0 (r.level - (t - r.last)) + c.cost) = max 0 (r.level - (t - r.last)) + c.cost := cwrap (by omega) (by omega)
  have w4 : IntKind.i64.wrap (t - r.kiss) = t - r.kiss := cwrap (by omega) (by omega)
  refine Runs.mk tabOK Try.call24 Try.func24 rfl Try.ntmps24 Try.results24 rfl ?_
  (repeat' (first
    | (intro Q h; refine h ?_; clear h Q)
    | (with_reducible refine bcase_true ?_)
    | (with_reducible refine bcase_false ?_)
    | (refine bcase_mk (fun hb => ?_) (fun hb => ?_) <;> (try simp only [decide_eq_true_eq, decide_eq_false_iff_not, beq_iff_eq, beq_eq_false_iff_ne, bne_iff_ne, bne_eq_false_iff_eq, Bool.not_eq_true', Bool.not_eq_false', Bool.and_eq_true, Bool.or_eq_true, ne_eq, Int.not_lt, Int.not_le, eq_self, not_true_eq_false, not_false_eq_true, reduceCtorEq, Bool.and_true, Bool.true_and, beq_self_eq_true, bne_self_eq_false, Bool.false_eq_true, Bool.and_false, Bool.not_true, Bool.not_false] at hb))
    | refine rng_mk (fun es clock => ?_)
    | refine nxt_mk rfl rfl rfl (fun hend => ?_) (kz_all (fun n hn hkS => ?_))
    | refine ent_mk rfl rfl rfl ?_
    | refine nil_mk (fun hz => ?_) ?_
    | refine draw_mk (by decide +kernel) ?_
    | refine seq_go ?_
    | refine And.intro (by first | omega | ((try simp only [IntKind.wrap_i64, List.length_append, List.length_cons, List.length_nil, List.length_take, List.length_map, Int.toNat_natCast]); omega) | rfl | decide) ?_
    | (apply ret_mk [some 0, some 1]; (focus (iterate 2 (all_goals (repeat' (first | exact sub_dead | exact mapa_same recA_flat rfl (fun _ _ => rfl) | exact mapa_ren recA_flat rfl (fun _ _ => rfl) | exact mapa_of recA_flat rfl (fun _ _ => rfl) | exact mapga_same recA_flat | exact iter_same rfl rfl | refine iter_same rfl ?_ | exact sub_map rfl | exact map_same rfl | exact map_updc rfl | refine map_updc ?_ | refine map_same ?_ | refine map_mk ?_ ?_ | exact subL_nil | exact trivial | (intro Q h; refine h ?_; clear h Q) | refine And.intro ?_ ?_ | refine subL_cons ?_ ?_ | refine sub_agg ?_ | refine sub_tup ?_ | refine sub_fn ?_ | refine var_mk ?_ | refine rd_var ?_ rfl | refine rd_rd ?_ | exact sub_ptr rfl rfl | exact sub_sl rfl rfl rfl | exact sub_refl_val _ _ | (refine sub_int ?_; first | with_reducible rfl | omega | ((try simp only [IntKind.wrap_i64, List.length_append, List.length_cons, List.length_nil, List.length_take, List.length_map, Int.toNat_natCast]); omega) | rfl) | exact sub_sb rfl | exact sub_sbl rfl | exact row_same rfl rfl rfl | exact row_ren rfl rfl rfl | (refine sub_sl rfl rfl ?_; first | with_reducible rfl | omega | ((try simp only [IntKind.wrap_i64, List.length_append, List.length_cons, List.length_nil, List.length_take, List.length_map, Int.toNat_natCast]); omega) | rfl) | exact sub_nil rfl | (refine sub_nil ?_; first | with_reducible rfl | omega | ((try simp only [IntKind.wrap_i64, List.length_append, List.length_cons, List.length_nil, List.length_take, List.length_map, Int.toNat_natCast]); omega) | rfl) | (refine virt_mk ?_; first | with_reducible rfl | omega | ((try simp only [IntKind.wrap_i64, List.length_append, List.length_cons, List.length_nil, List.length_take, List.length_map, Int.toNat_natCast]); omega) | rfl) | apply row_app1 | apply row_app2 | apply row_app1r | refine cells_succ ?_ ?_ | exact cell0 | with_reducible rfl | (refine And.left (b := True) ⟨?_, True.intro⟩; assumption) | (show (_ : Nat) = _; first | with_reducible rfl | omega | ((try simp only [IntKind.wrap_i64, List.length_append, List.length_cons, List.length_nil, List.length_take, List.length_map, Int.toNat_natCast]); omega) | rfl) | refine sub_int ?_ | refine sub_sb ?_ | refine sub_sbl ?_ | refine sub_sl rfl rfl ?_ | (apply row_lit rfl; (focus (refine cells_succ ?_ ?_))) | refine row_same rfl ?_ ?_ | refine row_ren rfl ?_ ?_))))); (any_goals (apply okIx_mk; rfl)))
    | omega))
  all_goals (try simp only [w1, w2, hm, w3, w4] at *)
  all_goals first
    | (rw [judge_pass (by omega) (by omega)]; done)
    | (rw [judge_drop (by omega) (by assumption) (by omega)]; done)
    | (rw [judge_kiss (by omega) (fun _ => by omega)]; done)
    | (rw [judge_kiss (by omega) (fun q => by rw [q] at *; contradiction)]; done)
    | (rw [judge_kiss (by omega) (fun q => by exfalso; simp_all)]; done)
    | fail
end Go.Vx.L28

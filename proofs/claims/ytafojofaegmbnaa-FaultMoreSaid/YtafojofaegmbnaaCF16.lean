/- Lemmas of a small executor for the model, and contracts of functions, used for the law that this claim proves. No condition. -/
import Derived.Test.YtafojofaegmbnaaCF15
set_option linter.unusedSimpArgs false
set_option linter.unusedVariables false
set_option maxRecDepth 100000
namespace Go.Vx.L55
open Go Go.Proofs
def boC (b : Bool) : List AV := [.sb b]
instance : FlatC boC := ⟨fun x v h => by simp [boC] at h; subst h; trivial⟩
abbrev boF (l : List Bool) : Nat → Nat → AV := rowF boC false l
abbrev wB (rw : Bool) (t : TypeId) (ws : List Bool) : Blk := .arr rw t 1 ws.length (boF ws)
/-- A server that is wrong, or is none. -/
def badB (ws : List Bool) (m : Nat) (s : Int) : Bool := decide (s < 0) || (decide ((m : Int) ≤ s) || ws.getD s.toNat false)
def cntB (ws : List Bool) (m : Nat) (l : List Int) : Nat := l.countP (badB ws m)
def dbt (l : List Int) (ws : List Bool) (m : Nat) : Bool := decide (0 < cntB ws m l ∧ l.length ≤ 2 * cntB ws m l)
theorem cntB_le (ws : List Bool) (m : Nat) (l : List Int) : cntB ws m l ≤ l.length := List.countP_le_length
theorem cntB_succ (ws : List Bool) (m : Nat) {l : List Int} {k : Nat} (h : k < l.length) : cntB ws m (l.take (k + 1)) = cntB ws m (l.take k) + if badB ws m (l.getD k 0) = true then 1 else 0 := by
  unfold cntB
  rw [List.getD_eq_getElem?_getD, List.getElem?_eq_getElem h, Option.getD_some, ← List.take_append_getElem h, List.countP_append, List.countP_cons, List.countP_nil, Nat.zero_add]
set_option maxHeartbeats 1000000 in
theorem doubtful_ok (l : List Int) (ws : List Bool) (m : Nat) (t : TypeId) (cap cap' : Option Nat) (hl : l.length ≤ 35184372088832) (hm : m ≤ ws.length) (hm2 : m ≤ 1000) :
    Runs Try.prog 40 [.sl 0 1 0 l.length cap, .sl 1 1 0 m cap'] [iB false l, wB false t ws] (Det (.sb (dbt l ws m)) [iB false l, wB false t ws]) := by
  have hmx : maxLen = 9223372036854775807 := by decide
  refine Runs.mk tabOK Try.call40 Try.func40 rfl Try.ntmps40 Try.results40 rfl ?_
  (intro Q h; refine h ?_; clear h Q; repeat (refine seq_go ?_; intro Q h; refine h ?_; clear h Q))
  refine loop_inv (σ := Nat) (fun x => x ≤ l.length) (fun x => ⟨[(0, .sl 0 1 0 l.length cap), (1, .sl 1 1 0 m cap'), (5, .val (.int .i64 (cntB ws m (l.take x)))), (8, .sl 0 1 0 l.length cap), (9, .val (.int .i64 l.length)), (10, .val (.int .i64 x))], [iB false l, wB false t ws]⟩) (fun x => l.length - x) (0) ?_ ?_ ?_
  · simp
  · (apply le_mk [some 0, some 1]; (focus (iterate 2 (all_goals (repeat' (first | exact sub_dead | exact subL_nil | exact trivial | (intro Q h; refine h ?_; clear h Q) | refine And.intro ?_ ?_ | refine subL_cons ?_ ?_ | refine sub_agg ?_ | refine sub_tup ?_ | refine sub_fn ?_ | refine sub_bfn ?_ ?_ | refine var_mk ?_ | refine rd_var ?_ rfl | refine rd_rd ?_ | exact sub_ptr rfl rfl | exact sub_sl rfl rfl rfl | exact sub_refl_val _ _ | exact sub_sb rfl | exact sub_sbl rfl | exact row_same rfl rfl rfl | exact row_ren rfl rfl rfl | exact sub_nil rfl | ((first | refine sub_int ?_ | refine sub_sl rfl rfl ?_ | refine sub_nil ?_ | refine virt_mk ?_ | show (_ : Nat) = _); first | with_reducible rfl | omega | ((try simp only [wS]); omega) | rfl) | apply row_app1 | apply row_app2 | apply row_app1r | refine cells_succ ?_ ?_ | exact cell0 | with_reducible rfl | (refine And.left (b := True) ⟨?_, True.intro⟩; assumption) | refine sub_int ?_ | refine sub_sb ?_ | refine sub_sbl ?_ | refine sub_sl rfl rfl ?_ | (apply row_lit rfl; (focus (refine cells_succ ?_ ?_))) | refine row_same rfl ?_ ?_ | refine row_ren rfl ?_ ?_))))); (any_goals (apply okIx_mk; rfl)))
    all_goals (try rfl)
  rintro k hk
  have hS := fun h => cntB_succ ws m (l := l) (k := k) h
  have hc := cntB_le ws m (l.take k)
  rw [List.length_take] at hc
  (repeat' (first
    | (intro Q h; refine h ?_; clear h Q)
    | (with_reducible refine bcase_true ?_)
    | (with_reducible refine bcase_false ?_)
    | (refine bcase_mk (fun hb => ?_) (fun hb => ?_) <;> (try simp only [nS, nT, eq_self, reduceCtorEq] at hb))
    | refine nil_mk (fun hz => ?_) ?_
    | refine draw_mk (by decide +kernel) ?_
    | refine seq_go ?_
    | refine And.intro (by first | omega | ((try simp only [wS]); omega) | rfl | decide) ?_
    | (apply ret_mk [some 0, some 1]; (focus (iterate 2 (all_goals (repeat' (first | exact sub_dead | exact subL_nil | exact trivial | (intro Q h; refine h ?_; clear h Q) | refine And.intro ?_ ?_ | refine subL_cons ?_ ?_ | refine sub_agg ?_ | refine sub_tup ?_ | refine sub_fn ?_ | refine sub_bfn ?_ ?_ | refine var_mk ?_ | refine rd_var ?_ rfl | refine rd_rd ?_ | exact sub_ptr rfl rfl | exact sub_sl rfl rfl rfl | exact sub_refl_val _ _ | exact sub_sb rfl | exact sub_sbl rfl | exact row_same rfl rfl rfl | exact row_ren rfl rfl rfl | exact sub_nil rfl | ((first | refine sub_int ?_ | refine sub_sl rfl rfl ?_ | refine sub_nil ?_ | refine virt_mk ?_ | show (_ : Nat) = _); first | with_reducible rfl | omega | ((try simp only [wS]); omega) | rfl) | apply row_app1 | apply row_app2 | apply row_app1r | refine cells_succ ?_ ?_ | exact cell0 | with_reducible rfl | (refine And.left (b := True) ⟨?_, True.intro⟩; assumption) | refine sub_int ?_ | refine sub_sb ?_ | refine sub_sbl ?_ | refine sub_sl rfl rfl ?_ | (apply row_lit rfl; (focus (refine cells_succ ?_ ?_))) | refine row_same rfl ?_ ?_ | refine row_ren rfl ?_ ?_))))); (any_goals (apply okIx_mk; rfl)))
    | (apply next_sub (Subtype.mk (k + 1) _); (focus (apply le_mk [some 0, some 1]; (focus (iterate 2 (all_goals (repeat' (first | exact sub_dead | exact subL_nil | exact trivial | (intro Q h; refine h ?_; clear h Q) | refine And.intro ?_ ?_ | refine subL_cons ?_ ?_ | refine sub_agg ?_ | refine sub_tup ?_ | refine sub_fn ?_ | refine sub_bfn ?_ ?_ | refine var_mk ?_ | refine rd_var ?_ rfl | refine rd_rd ?_ | exact sub_ptr rfl rfl | exact sub_sl rfl rfl rfl | exact sub_refl_val _ _ | exact sub_sb rfl | exact sub_sbl rfl | exact row_same rfl rfl rfl | exact row_ren rfl rfl rfl | exact sub_nil rfl | ((first | refine sub_int ?_ | refine sub_sl rfl rfl ?_ | refine sub_nil ?_ | refine virt_mk ?_ | show (_ : Nat) = _); first | with_reducible rfl | omega | ((try simp only [wS]); omega) | rfl) | apply row_app1 | apply row_app2 | apply row_app1r | refine cells_succ ?_ ?_ | exact cell0 | with_reducible rfl | (refine And.left (b := True) ⟨?_, True.intro⟩; assumption) | refine sub_int ?_ | refine sub_sb ?_ | refine sub_sbl ?_ | refine sub_sl rfl rfl ?_ | (apply row_lit rfl; (focus (refine cells_succ ?_ ?_))) | refine row_same rfl ?_ ?_ | refine row_ren rfl ?_ ?_))))); (any_goals (apply okIx_mk; rfl)))); (all_goals (try (first | omega | (simp only; omega)))))
    | omega))
  all_goals (try simp only [Nat.zero_add, Int.toNat_natCast] at *)
  · rw [hS (by omega), if_pos (by unfold badB; rw [decide_eq_true hb]; rfl), cw]; omega
  · rw [hS (by omega), if_pos (by unfold badB; rw [decide_eq_true (show (m : Int) ≤ l.getD k 0 by omega)]; simp), cw]; omega
  · rw [hS (by omega), if_pos (by unfold badB; rw [hb]; simp), cw]; omega
  · rename_i g0 g1
    rw [hS (by omega), if_neg (by unfold badB; rw [hb, decide_eq_false (by omega), decide_eq_false (by omega)]; simp)]; omega
  · rw [List.take_of_length_le (by omega)] at *
    unfold dbt
    rw [decide_eq_decide, cw]
    omega
  · rw [List.take_of_length_le (by omega)] at *
    unfold dbt
    symm; apply decide_eq_false; omega
set_option maxHeartbeats 1000000 in
theorem count_ok (l : List Int) (ws : List Bool) (m : Nat) (t : TypeId) (cap cap' : Option Nat) (hl : l.length ≤ 35184372088832) (hm : m ≤ ws.length) (hm2 : m ≤ 1000) :
    Runs Try.prog 41 [.sl 0 1 0 m cap', .sl 1 1 0 l.length cap] [wB false t ws, iB false l] (Det (.val (.int .i64 (cntB ws m l))) [wB false t ws, iB false l]) := by
  have hmx : maxLen = 9223372036854775807 := by decide
  refine Runs.mk tabOK Try.call41 Try.func41 rfl Try.ntmps41 Try.results41 rfl ?_
  (intro Q h; refine h ?_; clear h Q; repeat (refine seq_go ?_; intro Q h; refine h ?_; clear h Q))
  refine loop_inv (σ := Nat) (fun x => x ≤ l.length) (fun x => ⟨[(0, .sl 0 1 0 m cap'), (1, .sl 1 1 0 l.length cap), (5, .val (.int .i64 (cntB ws m (l.take x)))), (6, .val (.int .i64 x))], [wB false t ws, iB false l]⟩) (fun x => l.length - x) (0) ?_ ?_ ?_
  · simp
  · (apply le_mk [some 0, some 1]; (focus (iterate 2 (all_goals (repeat' (first | exact sub_dead | exact subL_nil | exact trivial | (intro Q h; refine h ?_; clear h Q) | refine And.intro ?_ ?_ | refine subL_cons ?_ ?_ | refine sub_agg ?_ | refine sub_tup ?_ | refine sub_fn ?_ | refine sub_bfn ?_ ?_ | refine var_mk ?_ | refine rd_var ?_ rfl | refine rd_rd ?_ | exact sub_ptr rfl rfl | exact sub_sl rfl rfl rfl | exact sub_refl_val _ _ | exact sub_sb rfl | exact sub_sbl rfl | exact row_same rfl rfl rfl | exact row_ren rfl rfl rfl | exact sub_nil rfl | ((first | refine sub_int ?_ | refine sub_sl rfl rfl ?_ | refine sub_nil ?_ | refine virt_mk ?_ | show (_ : Nat) = _); first | with_reducible rfl | omega | ((try simp only [wS]); omega) | rfl) | apply row_app1 | apply row_app2 | apply row_app1r | refine cells_succ ?_ ?_ | exact cell0 | with_reducible rfl | (refine And.left (b := True) ⟨?_, True.intro⟩; assumption) | refine sub_int ?_ | refine sub_sb ?_ | refine sub_sbl ?_ | refine sub_sl rfl rfl ?_ | (apply row_lit rfl; (focus (refine cells_succ ?_ ?_))) | refine row_same rfl ?_ ?_ | refine row_ren rfl ?_ ?_))))); (any_goals (apply okIx_mk; rfl)))
    all_goals (try rfl)
  rintro k hk
  have hS := fun h => cntB_succ ws m (l := l) (k := k) h
  have hc := cntB_le ws m (l.take k)
  rw [List.length_take] at hc
  (repeat' (first
    | (intro Q h; refine h ?_; clear h Q)
    | (with_reducible refine bcase_true ?_)
    | (with_reducible refine bcase_false ?_)
    | (refine bcase_mk (fun hb => ?_) (fun hb => ?_) <;> (try simp only [nS, nT, eq_self, reduceCtorEq] at hb))
    | refine nil_mk (fun hz => ?_) ?_
    | refine draw_mk (by decide +kernel) ?_
    | refine seq_go ?_
    | refine And.intro (by first | omega | ((try simp only [wS]); omega) | rfl | decide) ?_
    | (apply ret_mk [some 0, some 1]; (focus (iterate 2 (all_goals (repeat' (first | exact sub_dead | exact subL_nil | exact trivial | (intro Q h; refine h ?_; clear h Q) | refine And.intro ?_ ?_ | refine subL_cons ?_ ?_ | refine sub_agg ?_ | refine sub_tup ?_ | refine sub_fn ?_ | refine sub_bfn ?_ ?_ | refine var_mk ?_ | refine rd_var ?_ rfl | refine rd_rd ?_ | exact sub_ptr rfl rfl | exact sub_sl rfl rfl rfl | exact sub_refl_val _ _ | exact sub_sb rfl | exact sub_sbl rfl | exact row_same rfl rfl rfl | exact row_ren rfl rfl rfl | exact sub_nil rfl | ((first | refine sub_int ?_ | refine sub_sl rfl rfl ?_ | refine sub_nil ?_ | refine virt_mk ?_ | show (_ : Nat) = _); first | with_reducible rfl | omega | ((try simp only [wS]); omega) | rfl) | apply row_app1 | apply row_app2 | apply row_app1r | refine cells_succ ?_ ?_ | exact cell0 | with_reducible rfl | (refine And.left (b := True) ⟨?_, True.intro⟩; assumption) | refine sub_int ?_ | refine sub_sb ?_ | refine sub_sbl ?_ | refine sub_sl rfl rfl ?_ | (apply row_lit rfl; (focus (refine cells_succ ?_ ?_))) | refine row_same rfl ?_ ?_ | refine row_ren rfl ?_ ?_))))); (any_goals (apply okIx_mk; rfl)))
    | (apply next_sub (Subtype.mk (k + 1) _); (focus (apply le_mk [some 0, some 1]; (focus (iterate 2 (all_goals (repeat' (first | exact sub_dead | exact subL_nil | exact trivial | (intro Q h; refine h ?_; clear h Q) | refine And.intro ?_ ?_ | refine subL_cons ?_ ?_ | refine sub_agg ?_ | refine sub_tup ?_ | refine sub_fn ?_ | refine sub_bfn ?_ ?_ | refine var_mk ?_ | refine rd_var ?_ rfl | refine rd_rd ?_ | exact sub_ptr rfl rfl | exact sub_sl rfl rfl rfl | exact sub_refl_val _ _ | exact sub_sb rfl | exact sub_sbl rfl | exact row_same rfl rfl rfl | exact row_ren rfl rfl rfl | exact sub_nil rfl | ((first | refine sub_int ?_ | refine sub_sl rfl rfl ?_ | refine sub_nil ?_ | refine virt_mk ?_ | show (_ : Nat) = _); first | with_reducible rfl | omega | ((try simp only [wS]); omega) | rfl) | apply row_app1 | apply row_app2 | apply row_app1r | refine cells_succ ?_ ?_ | exact cell0 | with_reducible rfl | (refine And.left (b := True) ⟨?_, True.intro⟩; assumption) | refine sub_int ?_ | refine sub_sb ?_ | refine sub_sbl ?_ | refine sub_sl rfl rfl ?_ | (apply row_lit rfl; (focus (refine cells_succ ?_ ?_))) | refine row_same rfl ?_ ?_ | refine row_ren rfl ?_ ?_))))); (any_goals (apply okIx_mk; rfl)))); (all_goals (try (first | omega | (simp only; omega)))))
    | omega))
  all_goals (try simp only [Nat.zero_add, Int.toNat_natCast] at *)
  · rw [hS (by omega), if_pos (by unfold badB; rw [decide_eq_true hb]; rfl), cw]; omega
  · rw [hS (by omega), if_pos (by unfold badB; rw [decide_eq_true (show (m : Int) ≤ l.getD k 0 by omega)]; simp), cw]; omega
  · rw [hS (by omega), if_pos (by unfold badB; rw [hb]; simp), cw]; omega
  · rename_i g0 g1
    rw [hS (by omega), if_neg (by unfold badB; rw [hb, decide_eq_false (by omega), decide_eq_false (by omega)]; simp)]; omega
  · rw [List.take_of_length_le (by omega)]
end Go.Vx.L55

/- Lemmas of a small executor for the model, and contracts of functions, used for the law that this claim proves. No condition. -/
import Derived.Test.YtblcjjlggfpehaaBC22
set_option linter.unusedSimpArgs false
set_option linter.unusedVariables false
set_option maxRecDepth 100000
namespace Go.Vx.L53
open Go Go.Proofs
/-- Is there a cycle? -/
def cyc (l : List Cn) (n : Nat) : Bool := chgL (byN l n (n - 1))
def bndE (n : Int) (l : List Cn) : Int := if cchk n l ≠ 0 then cchk n l else if cyc l n.toNat then 20 else 0
def bndA (n : Int) (l : List Cn) : List (List Int) := if bndE n l = 0 then fw n.toNat l else []
def solA (n : Int) (l : List Cn) : List Int := if bndE n l = 0 then lst l n.toNat (n.toNat - 1) else []
theorem fw_sq {n : Nat} {l : List Cn} (hl : allOK n l) : Sq n (fw n l) := fK_sq (mL_sq hl _ (Nat.le_refl _)) n (Nat.le_refl _)
abbrev fA (rs : List (List Int)) : Blk := fB rs.length rs
set_option maxHeartbeats 1000000 in
theorem bounds_ok (n : Int) (l : List Cn) (cap : Option Nat) (hl : l.length ≤ maxLen) :
    Runs Try.prog 37 [.val (.int .i64 n), aN l cap] [cB false l] (Det (.tup [.sl 1 1 0 (bndA n l).length none, .val (.int .i64 (bndE n l))]) [cB false l, fA (bndA n l)]) := by
  have hck := cchk_ok n l cap hl
  by_cases h0 : cchk n l = 0
  rotate_left
  · have hE : bndE n l = cchk n l := by unfold bndE; rw [if_pos h0]
    have hA : bndA n l = [] := by unfold bndA; rw [hE, if_neg h0]
    rw [hA, hE]
    generalize cchk n l = w at *
    refine Runs.mk tabOK Try.call37 Try.func37 rfl Try.ntmps37 Try.results37 rfl ?_
    (repeat' (first
    | (intro Q h; refine h ?_; clear h Q)
    | (refine bcase_mk (fun hb => ?_) (fun hb => ?_) <;> (try simp only [nS, nT, eq_self, reduceCtorEq] at hb) <;> (try (exfalso; (omega); done)))
    | refine seq_go ?_
    | ((first | apply call1 (hck) ); (focus (iterate 2 (all_goals (repeat' (first | exact subL_nil | exact trivial | (intro Q h; refine h ?_; clear h Q) | refine And.intro ?_ ?_ | refine subL_cons ?_ ?_ | exact sub_sl rfl rfl rfl | exact sub_refl_val _ _ | exact row_same rfl rfl rfl ))))); (try (any_goals fail)))
    | (apply ret_mk [some 0, none]; (focus (iterate 2 (all_goals (repeat' (first | exact fam_virt rfl | exact subL_nil | exact trivial | (intro Q h; refine h ?_; clear h Q) | refine And.intro ?_ ?_ | refine subL_cons ?_ ?_ | refine sub_tup ?_ | exact sub_refl_val _ _ | exact row_same rfl rfl rfl | exact sub_nil rfl ))))); (any_goals (apply okIx_mk; rfl)))
    ))
  obtain ⟨m, rfl, hm, hl4, hok⟩ := cchk_zero h0
  have hex := explore_ok l cap m hm hl4 hok
  have hmt := matrix_ok l cap m hm hl4 hok
  have hrg := endF_rg (byN l m (m - 1))
  have hc := endF_neg (byN l m (m - 1))
  rw [show chgL (byN l m (m - 1)) = cyc l m from rfl] at hc
  have hE : bndE m l = if cyc l m then 20 else 0 := by unfold bndE; rw [if_neg (not_not_intro h0), Int.toNat_natCast]
  have hA : bndA m l = if bndE m l = 0 then fw m l else [] := by unfold bndA; rw [Int.toNat_natCast]
  have hsq := (fw_sq hok).len
  rw [h0] at hck
  generalize endF (byN l m (m - 1)) = e at *
  cases hcy : cyc l m
  · rw [hcy] at hc hE
    have he : e < 0 := hc.2 rfl
    rw [if_neg Bool.false_ne_true] at hE
    rw [hE, if_pos rfl] at hA
    rw [hE, hA]
    generalize fw m l = F at *
    subst hsq
    refine Runs.mk tabOK Try.call37 Try.func37 rfl Try.ntmps37 Try.results37 rfl ?_
    (repeat' (first
    | (intro Q h; refine h ?_; clear h Q)
    | (refine bcase_mk (fun hb => ?_) (fun hb => ?_) <;> (try simp only [nS, nT, eq_self, reduceCtorEq] at hb) <;> (try (exfalso; (omega); done)))
    | refine seq_go ?_
    | ((first | apply call1 (hck) ); (focus (iterate 2 (all_goals (repeat' (first | exact subL_nil | exact trivial | (intro Q h; refine h ?_; clear h Q) | refine And.intro ?_ ?_ | refine subL_cons ?_ ?_ | exact sub_sl rfl rfl rfl | exact sub_refl_val _ _ | exact row_same rfl rfl rfl ))))); (try (any_goals fail)))
    | ((first | apply call1 (hex) ); (focus (iterate 2 (all_goals (repeat' (first | exact subL_nil | exact trivial | (intro Q h; refine h ?_; clear h Q) | refine And.intro ?_ ?_ | refine subL_cons ?_ ?_ | exact sub_sl rfl rfl rfl | exact sub_refl_val _ _ | exact row_same rfl rfl rfl ))))); (try (any_goals fail)))
    | ((first | apply call1 (hmt) ); (focus (iterate 2 (all_goals (repeat' (first | exact subL_nil | exact trivial | (intro Q h; refine h ?_; clear h Q) | refine And.intro ?_ ?_ | refine subL_cons ?_ ?_ | exact sub_sl rfl rfl rfl | exact sub_refl_val _ _ | exact row_same rfl rfl rfl ))))); (try (any_goals fail)))
    | (apply ret_mk [some 0, some 3]; (focus (iterate 2 (all_goals (repeat' (first | exact fam_ren rfl rfl rfl | exact subL_nil | exact trivial | (intro Q h; refine h ?_; clear h Q) | refine And.intro ?_ ?_ | refine subL_cons ?_ ?_ | refine sub_tup ?_ | exact sub_sl rfl rfl rfl | exact sub_refl_val _ _ | exact row_same rfl rfl rfl ))))); (any_goals (apply okIx_mk; rfl)))
    ))
  · rw [hcy] at hc hE
    have he : ¬ e < 0 := fun h => by cases hc.1 h
    rw [if_pos rfl] at hE
    rw [hE, if_neg (by decide)] at hA
    rw [hE, hA]
    refine Runs.mk tabOK Try.call37 Try.func37 rfl Try.ntmps37 Try.results37 rfl ?_
    (repeat' (first
    | (intro Q h; refine h ?_; clear h Q)
    | (refine bcase_mk (fun hb => ?_) (fun hb => ?_) <;> (try simp only [nS, nT, eq_self, reduceCtorEq] at hb) <;> (try (exfalso; (omega); done)))
    | refine seq_go ?_
    | ((first | apply call1 (hck) ); (focus (iterate 2 (all_goals (repeat' (first | exact subL_nil | exact trivial | (intro Q h; refine h ?_; clear h Q) | refine And.intro ?_ ?_ | refine subL_cons ?_ ?_ | exact sub_sl rfl rfl rfl | exact sub_refl_val _ _ | exact row_same rfl rfl rfl ))))); (try (any_goals fail)))
    | ((first | apply call1 (hex) ); (focus (iterate 2 (all_goals (repeat' (first | exact subL_nil | exact trivial | (intro Q h; refine h ?_; clear h Q) | refine And.intro ?_ ?_ | refine subL_cons ?_ ?_ | exact sub_sl rfl rfl rfl | exact sub_refl_val _ _ | exact row_same rfl rfl rfl ))))); (try (any_goals fail)))
    | (apply ret_mk [some 0, none]; (focus (iterate 2 (all_goals (repeat' (first | exact fam_virt rfl | exact subL_nil | exact trivial | (intro Q h; refine h ?_; clear h Q) | refine And.intro ?_ ?_ | refine subL_cons ?_ ?_ | refine sub_tup ?_ | exact sub_refl_val _ _ | exact row_same rfl rfl rfl | exact sub_nil rfl ))))); (any_goals (apply okIx_mk; rfl)))
    ))
set_option maxHeartbeats 1000000 in
theorem solve_ok (n : Int) (l : List Cn) (cap : Option Nat) (hl : l.length ≤ maxLen) :
    Runs Try.prog 19 [.val (.int .i64 n), aN l cap] [cB false l] (Det (.tup [.sl 1 1 0 (solA n l).length none, .val (.int .i64 (bndE n l))]) [cB false l, iB true (solA n l)]) := by
  have hck := cchk_ok n l cap hl
  by_cases h0 : cchk n l = 0
  rotate_left
  · have hE : bndE n l = cchk n l := by unfold bndE; rw [if_pos h0]
    have hA : solA n l = [] := by unfold solA; rw [hE, if_neg h0]
    rw [hA, hE]
    generalize cchk n l = w at *
    refine Runs.mk tabOK Try.call19 Try.func19 rfl Try.ntmps19 Try.results19 rfl ?_
    (repeat' (first
    | (intro Q h; refine h ?_; clear h Q)
    | (refine bcase_mk (fun hb => ?_) (fun hb => ?_) <;> (try simp only [nS, nT, eq_self, reduceCtorEq] at hb) <;> (try (exfalso; (omega); done)))
    | refine seq_go ?_
    | ((first | apply call1 (hck) ); (focus (iterate 2 (all_goals (repeat' (first | exact subL_nil | exact trivial | (intro Q h; refine h ?_; clear h Q) | refine And.intro ?_ ?_ | refine subL_cons ?_ ?_ | exact sub_sl rfl rfl rfl | exact sub_refl_val _ _ | exact row_same rfl rfl rfl ))))); (try (any_goals fail)))
    | (apply ret_mk [some 0, none]; (focus (iterate 2 (all_goals (repeat' (first | exact subL_nil | exact trivial | (intro Q h; refine h ?_; clear h Q) | refine And.intro ?_ ?_ | refine subL_cons ?_ ?_ | refine sub_tup ?_ | exact sub_refl_val _ _ | exact row_same rfl rfl rfl | exact sub_nil rfl | ((first | refine virt_mk ?_ ); first | with_reducible rfl | omega | ((try simp only [wS]); omega) | rfl) ))))); (any_goals (apply okIx_mk; rfl)))
    ))
  obtain ⟨m, rfl, hm, hl4, hok⟩ := cchk_zero h0
  have hex := explore_ok l cap m hm hl4 hok
  have hrg := endF_rg (byN l m (m - 1))
  have hc := endF_neg (byN l m (m - 1))
  rw [show chgL (byN l m (m - 1)) = cyc l m from rfl] at hc
  have hE : bndE m l = if cyc l m then 20 else 0 := by unfold bndE; rw [if_neg (not_not_intro h0), Int.toNat_natCast]
  have hA : solA m l = if bndE m l = 0 then lst l m (m - 1) else [] := by unfold solA; rw [Int.toNat_natCast]
  have hsl := lst_len l m (m - 1)
  rw [h0] at hck
  generalize endF (byN l m (m - 1)) = e at *
  cases hcy : cyc l m
  · rw [hcy] at hc hE
    have he : e < 0 := hc.2 rfl
    rw [if_neg Bool.false_ne_true] at hE
    rw [hE, if_pos rfl] at hA
    rw [hE, hA]
    generalize lst l m (m - 1) = F at *
    refine Runs.mk tabOK Try.call19 Try.func19 rfl Try.ntmps19 Try.results19 rfl ?_
    (repeat' (first
    | (intro Q h; refine h ?_; clear h Q)
    | (refine bcase_mk (fun hb => ?_) (fun hb => ?_) <;> (try simp only [nS, nT, eq_self, reduceCtorEq] at hb) <;> (try (exfalso; (omega); done)))
    | refine seq_go ?_
    | ((first | apply call1 (hck) ); (focus (iterate 2 (all_goals (repeat' (first | exact subL_nil | exact trivial | (intro Q h; refine h ?_; clear h Q) | refine And.intro ?_ ?_ | refine subL_cons ?_ ?_ | exact sub_sl rfl rfl rfl | exact sub_refl_val _ _ | exact row_same rfl rfl rfl ))))); (try (any_goals fail)))
    | ((first | apply call1 (hex) ); (focus (iterate 2 (all_goals (repeat' (first | exact subL_nil | exact trivial | (intro Q h; refine h ?_; clear h Q) | refine And.intro ?_ ?_ | refine subL_cons ?_ ?_ | exact sub_sl rfl rfl rfl | exact sub_refl_val _ _ | exact row_same rfl rfl rfl ))))); (try (any_goals fail)))
    | (apply ret_mk [some 0, some 1]; (focus (iterate 2 (all_goals (repeat' (first | exact subL_nil | exact trivial | (intro Q h; refine h ?_; clear h Q) | refine And.intro ?_ ?_ | refine subL_cons ?_ ?_ | refine sub_tup ?_ | exact sub_refl_val _ _ | exact row_same rfl rfl rfl | exact row_ren rfl rfl rfl | ((first | refine sub_sl rfl rfl ?_ ); first | with_reducible rfl | omega | ((try simp only [wS]); omega) | rfl) ))))); (any_goals (apply okIx_mk; rfl)))
    ))
  · rw [hcy] at hc hE
    have he : ¬ e < 0 := fun h => by cases hc.1 h
    rw [if_pos rfl] at hE
    rw [hE, if_neg (by decide)] at hA
    rw [hE, hA]
    refine Runs.mk tabOK Try.call19 Try.func19 rfl Try.ntmps19 Try.results19 rfl ?_
    (repeat' (first
    | (intro Q h; refine h ?_; clear h Q)
    | (refine bcase_mk (fun hb => ?_) (fun hb => ?_) <;> (try simp only [nS, nT, eq_self, reduceCtorEq] at hb) <;> (try (exfalso; (omega); done)))
    | refine seq_go ?_
    | ((first | apply call1 (hck) ); (focus (iterate 2 (all_goals (repeat' (first | exact subL_nil | exact trivial | (intro Q h; refine h ?_; clear h Q) | refine And.intro ?_ ?_ | refine subL_cons ?_ ?_ | exact sub_sl rfl rfl rfl | exact sub_refl_val _ _ | exact row_same rfl rfl rfl ))))); (try (any_goals fail)))
    | ((first | apply call1 (hex) ); (focus (iterate 2 (all_goals (repeat' (first | exact subL_nil | exact trivial | (intro Q h; refine h ?_; clear h Q) | refine And.intro ?_ ?_ | refine subL_cons ?_ ?_ | exact sub_sl rfl rfl rfl | exact sub_refl_val _ _ | exact row_same rfl rfl rfl ))))); (try (any_goals fail)))
    | (apply ret_mk [some 0, none]; (focus (iterate 2 (all_goals (repeat' (first | exact subL_nil | exact trivial | (intro Q h; refine h ?_; clear h Q) | refine And.intro ?_ ?_ | refine subL_cons ?_ ?_ | refine sub_tup ?_ | exact sub_refl_val _ _ | exact row_same rfl rfl rfl | exact sub_nil rfl | ((first | refine virt_mk ?_ ); first | with_reducible rfl | omega | ((try simp only [wS]); omega) | rfl) ))))); (any_goals (apply okIx_mk; rfl)))
    ))
end Go.Vx.L53

/- Lemmas of a small executor for the model, and contracts of functions, used for the law that this claim proves. No condition. -/
import Derived.Test.YtblcjjlggfpehaaBC23
import Derived.Test.YtblcjjlggfpehaaBD6
set_option linter.unusedSimpArgs false
set_option linter.unusedVariables false
set_option maxRecDepth 100000
namespace Go.Vx.L53
open Go Go.Proofs
set_option maxHeartbeats 4000000 in
theorem tight_ok (n : Int) (l : List Cn) (cap : Option Nat) (hl : l.length ≤ maxLen) (a b : Int) :
    Runs Try.prog 46 [.val (.int .i64 n), aN l cap, .val (.int .i64 a), .val (.int .i64 b)] [cB false l] (Det (.tup [.sl 1 1 0 (tgA n l a b).length none, .val (.int .i64 (tgE n l a b))]) [cB false l, iB true (tgA n l a b)]) := by
  have hck := cchk_ok n l cap hl
  have bad : ∀ w, w ≠ 0 → tgE n l a b = w → tgA n l a b = [] := fun w h1 h2 => by unfold tgA; rw [h2, if_neg h1]
  by_cases h0 : cchk n l = 0
  rotate_left
  · have hE : tgE n l a b = cchk n l := by unfold tgE; rw [if_pos h0]
    rw [bad _ h0 hE, hE]
    generalize cchk n l = w at *
    refine Runs.mk tabOK Try.call46 Try.func46 rfl Try.ntmps46 Try.results46 rfl ?_
    (repeat' (first
    | (intro Q h; refine h ?_; clear h Q)
    | (refine bcase_mk (fun hb => ?_) (fun hb => ?_) <;> (try simp only [nS, nT, eq_self, reduceCtorEq] at hb) <;> (try (exfalso; (omega); done)))
    | refine seq_go ?_
    | ((first | apply call1 (hck) ); (focus (iterate 2 (all_goals (repeat' (first | exact subL_nil | exact trivial | (intro Q h; refine h ?_; clear h Q) | refine And.intro ?_ ?_ | refine subL_cons ?_ ?_ | exact sub_sl rfl rfl rfl | exact sub_refl_val _ _ | exact row_same rfl rfl rfl ))))); (try (any_goals fail)))
    | (apply ret_mk [some 0, none]; (focus (iterate 2 (all_goals (repeat' (first | exact subL_nil | exact trivial | (intro Q h; refine h ?_; clear h Q) | refine And.intro ?_ ?_ | refine subL_cons ?_ ?_ | refine sub_tup ?_ | exact sub_refl_val _ _ | exact row_same rfl rfl rfl | exact sub_nil rfl | ((first | refine virt_mk ?_ ); first | with_reducible rfl | omega | ((try simp only [wS]); omega) | rfl) ))))); (any_goals (apply okIx_mk; rfl)))
    ))
  by_cases hr : (0 ≤ a ∧ a < n) ∧ (0 ≤ b ∧ b < n)
  rotate_left
  · have hE : tgE n l a b = 3 := by unfold tgE; rw [if_neg (not_not_intro h0), if_pos hr]
    rw [bad _ (by decide) hE, hE]
    rw [h0] at hck
    refine Runs.mk tabOK Try.call46 Try.func46 rfl Try.ntmps46 Try.results46 rfl ?_
    (repeat' (first
    | (intro Q h; refine h ?_; clear h Q)
    | (refine bcase_mk (fun hb => ?_) (fun hb => ?_) <;> (try simp only [nS, nT, eq_self, reduceCtorEq] at hb) <;> (try (exfalso; (omega); done)))
    | refine seq_go ?_
    | ((first | apply call1 (hck) ); (focus (iterate 2 (all_goals (repeat' (first | exact subL_nil | exact trivial | (intro Q h; refine h ?_; clear h Q) | refine And.intro ?_ ?_ | refine subL_cons ?_ ?_ | exact sub_sl rfl rfl rfl | exact sub_refl_val _ _ | exact row_same rfl rfl rfl ))))); (try (any_goals fail)))
    | (apply ret_mk [some 0, none]; (focus (iterate 2 (all_goals (repeat' (first | exact subL_nil | exact trivial | (intro Q h; refine h ?_; clear h Q) | refine And.intro ?_ ?_ | refine subL_cons ?_ ?_ | refine sub_tup ?_ | exact sub_refl_val _ _ | exact row_same rfl rfl rfl | exact sub_nil rfl | ((first | refine virt_mk ?_ ); first | with_reducible rfl | omega | ((try simp only [wS]); omega) | rfl) ))))); (any_goals (apply okIx_mk; rfl)))
    ))
  obtain ⟨n, rfl, hm, hl4, hok⟩ := cchk_zero h0
  obtain ⟨⟨a0, a1⟩, b0, b1⟩ := hr
  obtain ⟨a, rfl⟩ := Int.eq_ofNat_of_zero_le a0
  obtain ⟨b, rfl⟩ := Int.eq_ofNat_of_zero_le b0
  have hex := explore_ok l cap n hm hl4 hok
  have hmt := matrix_ok l cap n hm hl4 hok
  have hrg := endF_rg (byN l n (n - 1))
  have hc := endF_neg (byN l n (n - 1))
  rw [show chgL (byN l n (n - 1)) = cyc l n from rfl] at hc
  rw [h0] at hck
  have hE0 : tgE n l a b = if cyc l n then 20 else if (rowA l n a).getD b 0 = NN then 11 else 0 := by
    unfold tgE; rw [if_neg (not_not_intro h0), if_neg (not_not_intro ⟨⟨a0, a1⟩, b0, b1⟩), Int.toNat_natCast, Int.toNat_natCast, Int.toNat_natCast]
  generalize endF (byN l n (n - 1)) = e at *
  cases hcy : cyc l n
  rotate_left
  · rw [hcy] at hc
    have he : ¬ e < 0 := fun h => by cases hc.1 h
    have hE : tgE n l a b = 20 := by rw [hE0, hcy]; rfl
    rw [bad _ (by decide) hE, hE]
    refine Runs.mk tabOK Try.call46 Try.func46 rfl Try.ntmps46 Try.results46 rfl ?_
    (repeat' (first
    | (intro Q h; refine h ?_; clear h Q)
    | (refine bcase_mk (fun hb => ?_) (fun hb => ?_) <;> (try simp only [nS, nT, eq_self, reduceCtorEq] at hb) <;> (try (exfalso; (omega); done)))
    | refine seq_go ?_
    | ((first | apply call1 (hck) ); (focus (iterate 2 (all_goals (repeat' (first | exact subL_nil | exact trivial | (intro Q h; refine h ?_; clear h Q) | refine And.intro ?_ ?_ | refine subL_cons ?_ ?_ | exact sub_sl rfl rfl rfl | exact sub_refl_val _ _ | exact row_same rfl rfl rfl ))))); (try (any_goals fail)))
    | ((first | apply call1 (hex) ); (focus (iterate 2 (all_goals (repeat' (first | exact subL_nil | exact trivial | (intro Q h; refine h ?_; clear h Q) | refine And.intro ?_ ?_ | refine subL_cons ?_ ?_ | exact sub_sl rfl rfl rfl | exact sub_refl_val _ _ | exact row_same rfl rfl rfl ))))); (try (any_goals fail)))
    | (apply ret_mk [some 0, none]; (focus (iterate 2 (all_goals (repeat' (first | exact subL_nil | exact trivial | (intro Q h; refine h ?_; clear h Q) | refine And.intro ?_ ?_ | refine subL_cons ?_ ?_ | refine sub_tup ?_ | exact sub_refl_val _ _ | exact row_same rfl rfl rfl | exact sub_nil rfl | ((first | refine virt_mk ?_ ); first | with_reducible rfl | omega | ((try simp only [wS]); omega) | rfl) ))))); (any_goals (apply okIx_mk; rfl)))
    ))
  rw [hcy] at hc hE0
  have he : e < 0 := hc.2 rfl
  rw [if_neg Bool.false_ne_true] at hE0
  have hs := sys_of hm hok hcy
  obtain ⟨hrl, hrr⟩ := row_rg hs (show a < n by omega)
  have hYr := lst_rg hm.1 hok
  have hYl := lst_len l n (n - 1)
  have hMl := (fw_sq hok).len
  have hza : 0 + Int.toNat a = a := by omega
  have hzb : 0 + Int.toNat b = b := by omega
  have hf1 := famF_fst intC 0 (fw n l) (0 + Int.toNat a)
  rw [show (fw n l).getD (0 + Int.toNat a) [] = rowA l n a by rw [hza]; rfl, hrl] at hf1
  have hRg : (fw n l).getD (0 + Int.toNat a) [] = rowA l n a := by rw [hza]; rfl
  have hRg' : (fw n l).getD a [] = rowA l n a := rfl
  by_cases hnn : (rowA l n a).getD b 0 = NN
  · have hE : tgE n l a b = 11 := by rw [hE0, if_pos hnn]
    rw [bad _ (by decide) hE, hE]
    have hnn' : ((fw n l).getD (0 + Int.toNat a) []).getD (0 + Int.toNat b) 0 = 4611686018427387904 := by rw [hRg, hzb]; exact hnn
    generalize fw n l = M at *
    refine Runs.mk tabOK Try.call46 Try.func46 rfl Try.ntmps46 Try.results46 rfl ?_
    (repeat' (first
    | (intro Q h; refine h ?_; clear h Q)
    | (refine bcase_mk (fun hb => ?_) (fun hb => ?_) <;> (try simp only [nS, nT, eq_self, reduceCtorEq] at hb) <;> (try (exfalso; (omega); done)))
    | refine seq_go ?_
    | (first | refine And.intro (show (b : Int) < ((famF intC 0 M (0 + Int.toNat a)).1 : Nat) from by omega) ?_ | refine And.intro (show 0 + Int.toNat b < (famF intC 0 M (0 + Int.toNat a)).1 from by omega) ?_)
    | refine And.intro (by first | omega | ((try simp only [wS]); omega) | rfl | decide) ?_
    | ((first | apply call1 (hck) ); (focus (iterate 2 (all_goals (repeat' (first | exact subL_nil | exact trivial | (intro Q h; refine h ?_; clear h Q) | refine And.intro ?_ ?_ | refine subL_cons ?_ ?_ | exact sub_sl rfl rfl rfl | exact sub_refl_val _ _ | exact row_same rfl rfl rfl ))))); (try (any_goals fail)))
    | ((first | apply call1 (hex) ); (focus (iterate 2 (all_goals (repeat' (first | exact subL_nil | exact trivial | (intro Q h; refine h ?_; clear h Q) | refine And.intro ?_ ?_ | refine subL_cons ?_ ?_ | exact sub_sl rfl rfl rfl | exact sub_refl_val _ _ | exact row_same rfl rfl rfl ))))); (try (any_goals fail)))
    | ((first | apply call1 (hmt) ); (focus (iterate 2 (all_goals (repeat' (first | exact subL_nil | exact trivial | (intro Q h; refine h ?_; clear h Q) | refine And.intro ?_ ?_ | refine subL_cons ?_ ?_ | exact sub_sl rfl rfl rfl | exact sub_refl_val _ _ | exact row_same rfl rfl rfl ))))); (try (any_goals fail)))
    | (apply ret_mk [some 0, none]; (focus (iterate 2 (all_goals (repeat' (first | exact subL_nil | exact trivial | (intro Q h; refine h ?_; clear h Q) | refine And.intro ?_ ?_ | refine subL_cons ?_ ?_ | refine sub_tup ?_ | exact sub_refl_val _ _ | exact row_same rfl rfl rfl | exact sub_nil rfl | ((first | refine virt_mk ?_ ); first | with_reducible rfl | omega | ((try simp only [wS]); omega) | rfl) ))))); (any_goals (apply okIx_mk; rfl)))
    ))
  have hE : tgE n l a b = 0 := by rw [hE0, if_neg hnn]
  have hA : tgA n l a b = tgX l n a := by unfold tgA; rw [if_pos hE, Int.toNat_natCast, Int.toNat_natCast]
  rw [hA, hE]
  unfold tgX
  have hnn' : ¬ ((fw n l).getD (0 + Int.toNat a) []).getD (0 + Int.toNat b) 0 = 4611686018427387904 := by rw [hRg, hzb]; exact hnn
  have hAr := adN_rg hok hrr hYr hm.1
  have hA0 : adN (rowA l n a) (lst l n (n - 1)) l 0 = 0 := rfl
  have hAs : ∀ x, adN (rowA l n a) (lst l n (n - 1)) l (x + 1) = if (rowA l n a).getD (l.getD x cn0).a.toNat 0 = NN ∧ (rowA l n a).getD (l.getD x cn0).b.toNat 0 ≠ NN then mxJ (adN (rowA l n a) (lst l n (n - 1)) l x) ((rowA l n a).getD (l.getD x cn0).b.toNat 0 - (l.getD x cn0).w - (lst l n (n - 1)).getD (l.getD x cn0).a.toNat 0) else adN (rowA l n a) (lst l n (n - 1)) l x := fun _ => rfl
  have hPl := fun k x hx => tgP_len (rowA l n a) (lst l n (n - 1)) k x hx
  have hPg := fun k x hx => tgP_get (rowA l n a) (lst l n (n - 1)) k (x := x) hx
  have hPs := fun k x hx => tgP_set (rowA l n a) (lst l n (n - 1)) k (x := x) hx
  have hPm := fun k x hx => tgP_same (rowA l n a) (lst l n (n - 1)) k (x := x) hx
  have hP0 : ∀ k, tgP (rowA l n a) (lst l n (n - 1)) k 0 = rowA l n a := fun k => by simp [tgP]
  have hW : ∀ k j, tgW (rowA l n a) (lst l n (n - 1)) k j = if (rowA l n a).getD j 0 = NN then (lst l n (n - 1)).getD j 0 + k else (rowA l n a).getD j 0 := fun _ _ => rfl
  have hset := set_self (fw n l) a []
  rw [hRg'] at hset
  generalize fw n l = M at *
  generalize rowA l n a = R at *
  generalize lst l n (n - 1) = Y at *
  generalize adN R Y l = AD at *
  generalize tgP R Y = TP at *
  generalize tgW R Y = TW at *
  refine Runs.mk tabOK Try.call46 Try.func46 rfl Try.ntmps46 Try.results46 rfl ?_
  (repeat' (first
    | (intro Q h; refine h ?_; clear h Q)
    | (refine bcase_mk (fun hb => ?_) (fun hb => ?_) <;> (try simp only [nS, nT, eq_self, reduceCtorEq] at hb) <;> (try (exfalso; (omega); done)))
    | refine seq_go ?_
    | (first | refine And.intro (show (b : Int) < ((famF intC 0 M (0 + Int.toNat a)).1 : Nat) from by omega) ?_ | refine And.intro (show 0 + Int.toNat b < (famF intC 0 M (0 + Int.toNat a)).1 from by omega) ?_)
    | refine And.intro (by first | omega | ((try simp only [wS]); omega) | rfl | decide) ?_
    | ((first | apply call1 (hck) ); (focus (iterate 2 (all_goals (repeat' (first | exact subL_nil | exact trivial | (intro Q h; refine h ?_; clear h Q) | refine And.intro ?_ ?_ | refine subL_cons ?_ ?_ | exact sub_sl rfl rfl rfl | exact sub_refl_val _ _ | exact row_same rfl rfl rfl ))))); (try (any_goals fail)))
    | ((first | apply call1 (hex) ); (focus (iterate 2 (all_goals (repeat' (first | exact subL_nil | exact trivial | (intro Q h; refine h ?_; clear h Q) | refine And.intro ?_ ?_ | refine subL_cons ?_ ?_ | exact sub_sl rfl rfl rfl | exact sub_refl_val _ _ | exact row_same rfl rfl rfl ))))); (try (any_goals fail)))
    | ((first | apply call1 (hmt) ); (focus (iterate 2 (all_goals (repeat' (first | exact subL_nil | exact trivial | (intro Q h; refine h ?_; clear h Q) | refine And.intro ?_ ?_ | refine subL_cons ?_ ?_ | exact sub_sl rfl rfl rfl | exact sub_refl_val _ _ | exact row_same rfl rfl rfl ))))); (try (any_goals fail)))
    ))
  refine loop_inv (σ := Nat) (fun x => x ≤ l.length) (fun x => ⟨[(11, .ptr 1 3 0 0), (12, .sl 4 1 0 n none), (13, .val (.int .i64 (AD x))), (56, aN l cap), (57, .val (.int .i64 l.length)), (58, .val (.int .i64 x))], [cB false l, .var [.sl 2 1 0 n none, .dead, .dead], iB true Y, fB n M, .row 3 a]⟩) (fun x => l.length - x) (0) ?_ ?_ ?_
  · omega
  · (apply le_mk [some 0, some 3, some 1, some 4, some 5]; (focus (iterate 2 (all_goals (repeat' (first | exact sub_dead | exact fam_ren rfl rfl rfl | (refine row_nm rfl ?_) | exact subL_nil | exact trivial | (intro Q h; refine h ?_; clear h Q) | refine And.intro ?_ ?_ | refine subL_cons ?_ ?_ | refine var_mk ?_ | exact sub_ptr rfl rfl | exact sub_sl rfl rfl rfl | exact sub_refl_val _ _ | exact row_same rfl rfl rfl | exact row_ren rfl rfl rfl | ((first | refine sub_int ?_ | refine sub_sl rfl rfl ?_ | show (_ : Nat) = _); first | with_reducible rfl | omega | ((try simp only [wS]); omega) | rfl) ))))); (any_goals (apply okIx_mk; rfl)))
  rintro x hx
  have hRl : (M.getD a []).length = n := by rw [hRg']; exact hrl
  have hfa := famF_fst intC 0 M a
  rw [hRl] at hfa
  rw [show NN = 4611686018427387904 from rfl] at hAs hW hrr hPm
  by_cases hxl : x < l.length
  · have hz : 0 + Int.toNat x = x := by omega
    have hc := hok _ (getD_mem l x cn0 hxl)
    have hAx := hAr x hx
    have hASx := hAs x
    have hY := hYr (0 + (l.getD (0 + Int.toNat x) cn0).a.toNat)
    have hRb := hrr (0 + (l.getD (0 + Int.toNat x) cn0).b.toNat) (by rw [hz]; omega)
    rw [← hz] at hc
    obtain ⟨⟨c0, c1⟩, ⟨d0, d1⟩, w0, w1⟩ := hc
    rw [show l.getD x cn0 = l.getD (0 + Int.toNat x) cn0 by rw [hz], ← hRg', ← Nat.zero_add (l.getD (0 + Int.toNat x) cn0).a.toNat, ← Nat.zero_add (l.getD (0 + Int.toNat x) cn0).b.toNat] at hASx
    rw [← hRg'] at hRb
    have hno : ¬ ((M.getD a []).getD (0 + (l.getD (0 + Int.toNat x) cn0).a.toNat) 0 = 4611686018427387904 ∧ (M.getD a []).getD (0 + (l.getD (0 + Int.toNat x) cn0).b.toNat) 0 ≠ 4611686018427387904) → AD (x + 1) = AD x := fun h => by rw [hASx, if_neg h]
    have hyes : ((M.getD a []).getD (0 + (l.getD (0 + Int.toNat x) cn0).a.toNat) 0 = 4611686018427387904 ∧ (M.getD a []).getD (0 + (l.getD (0 + Int.toNat x) cn0).b.toNat) 0 ≠ 4611686018427387904) → AD (x + 1) = mxJ (AD x) ((M.getD a []).getD (0 + (l.getD (0 + Int.toNat x) cn0).b.toNat) 0 - (l.getD (0 + Int.toNat x) cn0).w - Y.getD (0 + (l.getD (0 + Int.toNat x) cn0).a.toNat) 0) := fun h => by rw [hASx, if_pos h]
    have hw1 : ((M.getD a []).getD (0 + (l.getD (0 + Int.toNat x) cn0).b.toNat) 0 ≠ 4611686018427387904) → IntKind.i64.wrap (IntKind.i64.wrap ((M.getD a []).getD (0 + (l.getD (0 + Int.toNat x) cn0).b.toNat) 0 - (l.getD (0 + Int.toNat x) cn0).w) - Y.getD (0 + (l.getD (0 + Int.toNat x) cn0).a.toNat) 0) = (M.getD a []).getD (0 + (l.getD (0 + Int.toNat x) cn0).b.toNat) 0 - (l.getD (0 + Int.toNat x) cn0).w - Y.getD (0 + (l.getD (0 + Int.toNat x) cn0).a.toNat) 0 := fun h => by
      have := hRb h
      rw [cwrap (n := (M.getD a []).getD (0 + (l.getD (0 + Int.toNat x) cn0).b.toNat) 0 - (l.getD (0 + Int.toNat x) cn0).w) (by omega) (by omega)]
      exact cwrap (by omega) (by omega)
    (repeat' (first
    | (intro Q h; refine h ?_; clear h Q)
    | (refine bcase_mk (fun hb => ?_) (fun hb => ?_) <;> (try simp only [nS, nT, eq_self, reduceCtorEq] at hb) <;> (try (exfalso; (omega); done)))
    | refine draw_mk (by decide +kernel) ?_
    | refine seq_go ?_
    | refine And.intro (by first | omega | ((try simp only [wS]); omega) | rfl | decide) ?_
    | (apply next_sub (Subtype.mk (x + 1) (by first | omega | (simp only; omega))); (focus (rw [hyes ⟨by assumption, by assumption⟩]; apply le_mk [some 0, some 1, some 2, some 3, some 4]; (focus (iterate 2 (all_goals (repeat' (first | exact sub_dead | exact fam_same rfl rfl rfl | exact row_nm rfl rfl | exact subL_nil | exact trivial | (intro Q h; refine h ?_; clear h Q) | refine And.intro ?_ ?_ | refine subL_cons ?_ ?_ | refine var_mk ?_ | exact sub_ptr rfl rfl | exact sub_sl rfl rfl rfl | exact sub_refl_val _ _ | exact row_same rfl rfl rfl | ((first | refine sub_int ?_ ); first | with_reducible rfl | omega | ((try simp only [wS]); omega) | rfl) | refine sub_int ?_ ))))); (any_goals (apply okIx_mk; rfl)))); (all_goals (try (first | (simp only; omega)))))
    | (apply next_sub (Subtype.mk (x + 1) (by first | omega | (simp only; omega))); (focus (rw [hno (fun ⟨g1, g2⟩ => by contradiction)]; apply le_mk [some 0, some 1, some 2, some 3, some 4]; (focus (iterate 2 (all_goals (repeat' (first | exact sub_dead | exact fam_same rfl rfl rfl | exact row_nm rfl rfl | exact subL_nil | exact trivial | (intro Q h; refine h ?_; clear h Q) | refine And.intro ?_ ?_ | refine subL_cons ?_ ?_ | refine var_mk ?_ | exact sub_ptr rfl rfl | exact sub_sl rfl rfl rfl | exact sub_refl_val _ _ | exact row_same rfl rfl rfl | ((first | refine sub_int ?_ ); first | with_reducible rfl | omega | ((try simp only [wS]); omega) | rfl) ))))); (any_goals (apply okIx_mk; rfl)))); (all_goals (try (first | (simp only; omega)))))
    ))
    all_goals first
      | (rw [hw1 ‹_›]; rfl)
      | fail
  have hxx : l.length = x := by omega
  subst hxx
  have hAx := hAr l.length (Nat.le_refl _)
  generalize AD l.length = k at *
  have hPl := hPl k
  have hPg := hPg k
  have hPs := hPs k
  have hPm := hPm k
  have hW := hW k
  have hP0 := hP0 k
  generalize TP k = T at *
  generalize TW k = V at *
  (repeat' (first
    | (intro Q h; refine h ?_; clear h Q)
    | (refine bcase_mk (fun hb => ?_) (fun hb => ?_) <;> (try simp only [nS, nT, eq_self, reduceCtorEq] at hb) <;> (try (exfalso; (omega); done)))
    | refine seq_go ?_
    ))
  refine loop_inv (σ := Nat) (fun x => x ≤ n) (fun x => ⟨[(11, .ptr 1 3 0 0), (12, .sl 4 1 0 n none), (13, .val (.int .i64 k)), (95, .val (.int .i64 n)), (96, .val (.int .i64 x))], [cB false l, .var [.sl 2 1 0 n none, .dead, .dead], iB true Y, fB n (M.set a (T x)), .row 3 a]⟩) (fun x => n - x) (0) ?_ ?_ ?_
  · omega
  · rw [hP0, hset]
    (apply le_mk [some 0, some 1, some 2, some 3, some 4]; (focus (iterate 2 (all_goals (repeat' (first | exact sub_dead | exact fam_same rfl rfl rfl | exact row_nm rfl rfl | exact subL_nil | exact trivial | (intro Q h; refine h ?_; clear h Q) | refine And.intro ?_ ?_ | refine subL_cons ?_ ?_ | refine var_mk ?_ | exact sub_ptr rfl rfl | exact sub_sl rfl rfl rfl | exact sub_refl_val _ _ | exact row_same rfl rfl rfl ))))); (any_goals (apply okIx_mk; rfl)))
  rintro x hx
  have hTl := hPl x (by omega)
  rw [hrl] at hTl
  have hga : (M.set a (T x)).getD a [] = T x := by rw [getD_set, if_pos ⟨rfl, by rw [hMl]; omega⟩]
  have hfx := famF_fst intC 0 (M.set a (T x)) a
  rw [hga, hTl] at hfx
  have hSl : (M.set a (T x)).length = n := by rw [List.length_set, hMl]
  by_cases hxn : x < n
  · have hz : 0 + Int.toNat x = x := by omega
    have hg := hPg x (by omega)
    have hY := hYr (0 + Int.toNat x)
    have hno : ¬ ((M.set a (T x)).getD a []).getD (0 + Int.toNat x) 0 = 4611686018427387904 → M.set a (T (x + 1)) = M.set a (T x) := fun h => by
      rw [hga, hz, hg] at h
      rw [hPm x (by omega) h]
    have hyes : ((M.set a (T x)).getD a []).getD (0 + Int.toNat x) 0 = 4611686018427387904 → M.set a (T (x + 1)) = ms (M.set a (T x)) a (0 + Int.toNat x) (Y.getD (0 + Int.toNat x) 0 + k) := fun h => by
      rw [hga, hz, hg] at h
      unfold ms
      rw [hga, hz, hPs x (by omega), hW, if_pos h, List.set_set]
    have hw2 : IntKind.i64.wrap (Y.getD (0 + Int.toNat x) 0 + k) = Y.getD (0 + Int.toNat x) 0 + k := cwrap (by omega) (by omega)
    rw [← hga] at hTl
    generalize M.set a (T x) = N at *
    (repeat' (first
    | (intro Q h; refine h ?_; clear h Q)
    | (refine bcase_mk (fun hb => ?_) (fun hb => ?_) <;> (try simp only [nS, nT, eq_self, reduceCtorEq] at hb) <;> (try (exfalso; (omega); done)))
    | refine seq_go ?_
    | refine And.intro (by first | omega | ((try simp only [wS]); omega) | rfl | decide) ?_
    | (apply next_sub (Subtype.mk (x + 1) (by first | omega | (simp only; omega))); (focus (rw [hyes (by assumption)]; apply le_mk [some 0, some 1, some 2, some 3, some 4]; (focus (iterate 2 (all_goals (repeat' (first | exact sub_dead | exact row_nm rfl rfl | exact subL_nil | exact trivial | (intro Q h; refine h ?_; clear h Q) | refine And.intro ?_ ?_ | refine subL_cons ?_ ?_ | refine var_mk ?_ | exact sub_ptr rfl rfl | exact sub_sl rfl rfl rfl | exact sub_refl_val _ _ | exact row_same rfl rfl rfl | ((first | refine sub_int ?_ ); first | with_reducible rfl | omega | ((try simp only [wS]); omega) | rfl) ))))); (any_goals (apply okIx_mk; rfl)))); (all_goals (try (first | (simp only; omega)))))
    | (apply next_sub (Subtype.mk (x + 1) (by first | omega | (simp only; omega))); (focus (rw [hno (by assumption)]; apply le_mk [some 0, some 1, some 2, some 3, some 4]; (focus (iterate 2 (all_goals (repeat' (first | exact sub_dead | exact fam_same rfl rfl rfl | exact row_nm rfl rfl | exact subL_nil | exact trivial | (intro Q h; refine h ?_; clear h Q) | refine And.intro ?_ ?_ | refine subL_cons ?_ ?_ | refine var_mk ?_ | exact sub_ptr rfl rfl | exact sub_sl rfl rfl rfl | exact sub_refl_val _ _ | exact row_same rfl rfl rfl | ((first | refine sub_int ?_ ); first | with_reducible rfl | omega | ((try simp only [wS]); omega) | rfl) ))))); (any_goals (apply okIx_mk; rfl)))); (all_goals (try (first | (simp only; omega)))))
    ))
    all_goals first
      | exact fam_setv rfl hw2 (by omega) (by omega) rfl
      | fail
  · have hxx : n = x := by omega
    subst hxx
    rw [← hga] at hTl
    have hga' := hga
    generalize M.set a (T n) = N at *
    rw [← hga']
    (repeat' (first
    | (intro Q h; refine h ?_; clear h Q)
    | (refine bcase_mk (fun hb => ?_) (fun hb => ?_) <;> (try simp only [nS, nT, eq_self, reduceCtorEq] at hb) <;> (try (exfalso; (omega); done)))
    | (apply retg_mk [.take 4] [some 0, some 4]; (focus (iterate 3 (all_goals (repeat' (first | exact subL_nil | exact trivial | (intro Q h; refine h ?_; clear h Q) | refine And.intro ?_ ?_ | refine subL_cons ?_ ?_ | refine sub_tup ?_ | exact sub_refl_val _ _ | exact row_same rfl rfl rfl | ((first | refine sub_sl rfl rfl ?_ ); first | with_reducible rfl | omega | ((try simp only [wS]); omega) | rfl) ))))); (any_goals (apply okIx_mk; rfl)))
    ))
end Go.Vx.L53

/- Lemmas of a small executor for the model, and contracts of functions, used for the law that this claim proves. No condition. -/
import Derived.Test.YtblcjjlggfpehaaBC25
import Derived.Test.YtblcjjlggfpehaaBD6
set_option linter.unusedSimpArgs false
set_option linter.unusedVariables false
set_option maxRecDepth 100000
namespace Go.Vx.L53
open Go Go.Proofs
def rgP (V : Nat → Int) (n x : Nat) : List Int := (List.range x).map V ++ List.replicate (n - x) 0
theorem rgP_len (V : Nat → Int) (n x : Nat) (h : x ≤ n) : (rgP V n x).length = n := by simp [rgP]; omega
theorem rgP_set (V : Nat → Int) (n : Nat) {x : Nat} (h : x < n) : rgP V n (x + 1) = (rgP V n x).set x (V x) := by
  unfold rgP
  rw [List.set_append_right _ _ (by rw [List.length_map, List.length_range]; omega), List.length_map, List.length_range, Nat.sub_self, show n - x = (n - (x + 1)) + 1 by omega, List.replicate_succ, List.set_cons_zero, List.range_succ, List.map_append, List.append_assoc]; rfl
theorem tgP_all (R Y : List Int) (k : Int) : tgP R Y k R.length = rgP (tgW R Y k) R.length R.length := by
  unfold tgP rgP
  rw [List.drop_length, Nat.sub_self]; rfl
set_option maxHeartbeats 4000000 in
theorem rtight_ok (n : Int) (l : List Cn) (cap : Option Nat) (hl : l.length ≤ maxLen) (a b : Int) :
    Runs Try.prog 47 [.val (.int .i64 n), aN l cap, .val (.int .i64 a), .val (.int .i64 b)] [cB false l] (Det (.tup [.sl 1 1 0 (tgA n l a b).length none, .val (.int .i64 (tgE n l a b))]) [cB false l, iB true (tgA n l a b)]) := by
  have hck := rcchk_ok n l cap hl
  have hbn := rbounds_ok n l cap hl
  have hsv := rsolve_ok n l cap hl
  rw [← bndE_eq, ← bndA_eq] at hbn
  rw [← bndE_eq] at hsv
  have bad : ∀ w, w ≠ 0 → tgE n l a b = w → tgA n l a b = [] := fun w h1 h2 => by unfold tgA; rw [h2, if_neg h1]
  by_cases h0 : cchk n l = 0
  rotate_left
  · have hE : tgE n l a b = cchk n l := by unfold tgE; rw [if_pos h0]
    rw [bad _ h0 hE, hE]
    generalize cchk n l = w at *
    refine Runs.mk tabOK Try.call47 Try.func47 rfl Try.ntmps47 Try.results47 rfl ?_
    (repeat' (first
    | (intro Q h; refine h ?_; clear h Q)
    | (refine bcase_mk (fun hb => ?_) (fun hb => ?_) <;> (try simp only [nS, nT, eq_self, reduceCtorEq] at hb) <;> (try (exfalso; (omega); done)))
    | refine seq_go ?_
    | ((first | apply call1 (hck) ); (focus (iterate 2 (all_goals (repeat' (first | exact subL_nil | exact trivial | (intro Q h; refine h ?_; clear h Q) | refine And.intro ?_ ?_ | refine subL_cons ?_ ?_ | exact sub_sl rfl rfl rfl | exact sub_refl_val _ _ | exact row_same rfl rfl rfl ))))); (try (any_goals fail)))
    | (apply ret_mk [some 0, none]; (focus (iterate 2 (all_goals (repeat' (first | exact subL_nil | exact trivial | (intro Q h; refine h ?_; clear h Q) | refine And.intro ?_ ?_ | refine subL_cons ?_ ?_ | refine sub_tup ?_ | exact sub_refl_val _ _ | exact row_same rfl rfl rfl | exact sub_nil rfl | ((first | refine virt_mk ?_ ); first | with_reducible rfl | omega | ((try simp only [wS]); omega) | rfl) ))))); (any_goals (apply okIx_mk; rfl)))
    ))
  by_cases hr : (0 ≤ a ∧ a < n) ∧ (0 ≤ b ∧ b < n)
  rotate_left
  · have hE : tgE n l a b = 3 := by unfold tgE; rw [if_neg (not_not_intro h0), if_pos hr]
    rw [bad _ (by decide) hE, hE]
    rw [h0] at hck
    refine Runs.mk tabOK Try.call47 Try.func47 rfl Try.ntmps47 Try.results47 rfl ?_
    (repeat' (first
    | (intro Q h; refine h ?_; clear h Q)
    | (refine bcase_mk (fun hb => ?_) (fun hb => ?_) <;> (try simp only [nS, nT, eq_self, reduceCtorEq] at hb) <;> (try (exfalso; (omega); done)))
    | refine seq_go ?_
    | ((first | apply call1 (hck) ); (focus (iterate 2 (all_goals (repeat' (first | exact subL_nil | exact trivial | (intro Q h; refine h ?_; clear h Q) | refine And.intro ?_ ?_ | refine subL_cons ?_ ?_ | exact sub_sl rfl rfl rfl | exact sub_refl_val _ _ | exact row_same rfl rfl rfl ))))); (try (any_goals fail)))
    | (apply ret_mk [some 0, none]; (focus (iterate 2 (all_goals (repeat' (first | exact subL_nil | exact trivial | (intro Q h; refine h ?_; clear h Q) | refine And.intro ?_ ?_ | refine subL_cons ?_ ?_ | refine sub_tup ?_ | exact sub_refl_val _ _ | exact row_same rfl rfl rfl | exact sub_nil rfl | ((first | refine virt_mk ?_ ); first | with_reducible rfl | omega | ((try simp only [wS]); omega) | rfl) ))))); (any_goals (apply okIx_mk; rfl)))
    ))
  obtain ⟨n, rfl, hm, hl4, hok⟩ := cchk_zero h0
  obtain ⟨⟨a0, a1⟩, b0, b1⟩ := hr
  obtain ⟨a, rfl⟩ := Int.eq_ofNat_of_zero_le a0
  obtain ⟨b, rfl⟩ := Int.eq_ofNat_of_zero_le b0
  have hE0 : tgE n l a b = if cyc l n then 20 else if (rowA l n a).getD b 0 = NN then 11 else 0 := by
    unfold tgE; rw [if_neg (not_not_intro h0), if_neg (not_not_intro ⟨⟨a0, a1⟩, b0, b1⟩), Int.toNat_natCast, Int.toNat_natCast, Int.toNat_natCast]
  have hbE : bndE n l = if cyc l n then 20 else 0 := by unfold bndE; rw [if_neg (not_not_intro h0), Int.toNat_natCast]
  rw [h0] at hck
  cases hcy : cyc l n
  rotate_left
  · have hE : tgE n l a b = 20 := by rw [hE0, hcy]; rfl
    have hB : bndE n l = 20 := by rw [hbE, hcy]; rfl
    rw [bad _ (by decide) hE, hE]
    rw [hB] at hbn
    generalize bndA n l = M at *
    refine Runs.mk tabOK Try.call47 Try.func47 rfl Try.ntmps47 Try.results47 rfl ?_
    (repeat' (first
    | (intro Q h; refine h ?_; clear h Q)
    | (refine bcase_mk (fun hb => ?_) (fun hb => ?_) <;> (try simp only [nS, nT, eq_self, reduceCtorEq] at hb) <;> (try (exfalso; (omega); done)))
    | refine seq_go ?_
    | ((first | apply call1 (hck) ); (focus (iterate 2 (all_goals (repeat' (first | exact subL_nil | exact trivial | (intro Q h; refine h ?_; clear h Q) | refine And.intro ?_ ?_ | refine subL_cons ?_ ?_ | exact sub_sl rfl rfl rfl | exact sub_refl_val _ _ | exact row_same rfl rfl rfl ))))); (try (any_goals fail)))
    | ((first | apply call1 (hbn) ); (focus ((iterate 2 (all_goals (repeat' (first | exact subL_nil | exact trivial | (intro Q h; refine h ?_; clear h Q) | refine And.intro ?_ ?_ | refine subL_cons ?_ ?_ | exact sub_sl rfl rfl rfl | exact sub_refl_val _ _ | exact row_same rfl rfl rfl )))); done)); (try (any_goals fail)))
    | (apply ret_mk [some 0, none]; (focus (iterate 2 (all_goals (repeat' (first | exact subL_nil | exact trivial | (intro Q h; refine h ?_; clear h Q) | refine And.intro ?_ ?_ | refine subL_cons ?_ ?_ | refine sub_tup ?_ | exact sub_refl_val _ _ | exact row_same rfl rfl rfl | exact sub_nil rfl | ((first | refine virt_mk ?_ ); first | with_reducible rfl | omega | ((try simp only [wS]); omega) | rfl) ))))); (any_goals (apply okIx_mk; rfl)))
    ))
  have hB : bndE n l = 0 := by rw [hbE, hcy]; rfl
  rw [hcy, if_neg Bool.false_ne_true] at hE0
  have hsA := rsvA_eq hm.1 h0 hok hcy
  have hbA : bndA n l = fw n l := by unfold bndA; rw [if_pos hB, Int.toNat_natCast]
  rw [hB, hbA] at hbn
  rw [hB, hsA] at hsv
  have hs := sys_of hm hok hcy
  obtain ⟨hrl, hrr⟩ := row_rg hs (show a < n by omega)
  have hYr := lst_rg hm.1 hok
  have hYl := lst_len l n (n - 1)
  have hMl := (fw_sq hok).len
  rw [hMl] at hbn
  rw [hYl] at hsv
  have hza : 0 + Int.toNat a = a := by omega
  have hzb : 0 + Int.toNat b = b := by omega
  have hf1 := famF_fst intC 0 (fw n l) (0 + Int.toNat a)
  rw [show (fw n l).getD (0 + Int.toNat a) [] = rowA l n a by rw [hza]; rfl, hrl] at hf1
  have hRg : (fw n l).getD (0 + Int.toNat a) [] = rowA l n a := by rw [hza]; rfl
  by_cases hnn : (rowA l n a).getD b 0 = NN
  · have hE : tgE n l a b = 11 := by rw [hE0, if_pos hnn]
    rw [bad _ (by decide) hE, hE]
    have hnn' : ((fw n l).getD (0 + Int.toNat a) []).getD (0 + Int.toNat b) 0 = 4611686018427387904 := by rw [hRg, hzb]; exact hnn
    generalize fw n l = M at *
    refine Runs.mk tabOK Try.call47 Try.func47 rfl Try.ntmps47 Try.results47 rfl ?_
    (repeat' (first
    | (intro Q h; refine h ?_; clear h Q)
    | (refine bcase_mk (fun hb => ?_) (fun hb => ?_) <;> (try simp only [nS, nT, eq_self, reduceCtorEq] at hb) <;> (try (exfalso; (omega); done)))
    | refine seq_go ?_
    | (first | refine And.intro (show (b : Int) < ((famF intC 0 M (0 + Int.toNat a)).1 : Nat) from by omega) ?_ | refine And.intro (show 0 + Int.toNat b < (famF intC 0 M (0 + Int.toNat a)).1 from by omega) ?_)
    | refine And.intro (by first | omega | ((try simp only [wS]); omega) | rfl | decide) ?_
    | ((first | apply call1 (hck) ); (focus (iterate 2 (all_goals (repeat' (first | exact subL_nil | exact trivial | (intro Q h; refine h ?_; clear h Q) | refine And.intro ?_ ?_ | refine subL_cons ?_ ?_ | exact sub_sl rfl rfl rfl | exact sub_refl_val _ _ | exact row_same rfl rfl rfl ))))); (try (any_goals fail)))
    | ((first | apply call1 (hbn) ); (focus ((iterate 2 (all_goals (repeat' (first | exact subL_nil | exact trivial | (intro Q h; refine h ?_; clear h Q) | refine And.intro ?_ ?_ | refine subL_cons ?_ ?_ | exact sub_sl rfl rfl rfl | exact sub_refl_val _ _ | exact row_same rfl rfl rfl )))); done)); (try (any_goals fail)))
    | (apply ret_mk [some 0, none]; (focus (iterate 2 (all_goals (repeat' (first | exact subL_nil | exact trivial | (intro Q h; refine h ?_; clear h Q) | refine And.intro ?_ ?_ | refine subL_cons ?_ ?_ | refine sub_tup ?_ | exact sub_refl_val _ _ | exact row_same rfl rfl rfl | exact sub_nil rfl | ((first | refine virt_mk ?_ ); first | with_reducible rfl | omega | ((try simp only [wS]); omega) | rfl) ))))); (any_goals (apply okIx_mk; rfl)))
    ))
  have hE : tgE n l a b = 0 := by rw [hE0, if_neg hnn]
  have hA : tgA n l a b = tgX l n a := by unfold tgA; rw [if_pos hE, Int.toNat_natCast, Int.toNat_natCast]
  rw [hA, hE]
  unfold tgX
  have hAll := tgP_all (rowA l n a) (lst l n (n - 1)) (adN (rowA l n a) (lst l n (n - 1)) l l.length)
  rw [hrl] at hAll
  rw [hAll]
  have hnn' : ¬ ((fw n l).getD (0 + Int.toNat a) []).getD (0 + Int.toNat b) 0 = 4611686018427387904 := by rw [hRg, hzb]; exact hnn
  have hAr := adN_rg hok hrr hYr hm.1
  have hA0 : adN (rowA l n a) (lst l n (n - 1)) l 0 = 0 := rfl
  have hAs : ∀ x, adN (rowA l n a) (lst l n (n - 1)) l (x + 1) = if (rowA l n a).getD (l.getD x cn0).a.toNat 0 = NN ∧ (rowA l n a).getD (l.getD x cn0).b.toNat 0 ≠ NN then mxJ (adN (rowA l n a) (lst l n (n - 1)) l x) ((rowA l n a).getD (l.getD x cn0).b.toNat 0 - (l.getD x cn0).w - (lst l n (n - 1)).getD (l.getD x cn0).a.toNat 0) else adN (rowA l n a) (lst l n (n - 1)) l x := fun _ => rfl
  have hW : ∀ k j, tgW (rowA l n a) (lst l n (n - 1)) k j = if (rowA l n a).getD j 0 = NN then (lst l n (n - 1)).getD j 0 + k else (rowA l n a).getD j 0 := fun _ _ => rfl
  clear hAll
  generalize fw n l = M at *
  generalize rowA l n a = R at *
  generalize lst l n (n - 1) = Y at *
  generalize adN R Y l = AD at *
  generalize tgW R Y = TW at *
  refine Runs.mk tabOK Try.call47 Try.func47 rfl Try.ntmps47 Try.results47 rfl ?_
  (repeat' (first
    | (intro Q h; refine h ?_; clear h Q)
    | (refine bcase_mk (fun hb => ?_) (fun hb => ?_) <;> (try simp only [nS, nT, eq_self, reduceCtorEq] at hb) <;> (try (exfalso; (omega); done)))
    | refine seq_go ?_
    | (first | refine And.intro (show (b : Int) < ((famF intC 0 M (0 + Int.toNat a)).1 : Nat) from by omega) ?_ | refine And.intro (show 0 + Int.toNat b < (famF intC 0 M (0 + Int.toNat a)).1 from by omega) ?_)
    | refine And.intro (by first | omega | ((try simp only [wS]); omega) | rfl | decide) ?_
    | ((first | apply call1 (hck) ); (focus (iterate 2 (all_goals (repeat' (first | exact subL_nil | exact trivial | (intro Q h; refine h ?_; clear h Q) | refine And.intro ?_ ?_ | refine subL_cons ?_ ?_ | exact sub_sl rfl rfl rfl | exact sub_refl_val _ _ | exact row_same rfl rfl rfl ))))); (try (any_goals fail)))
    | ((first | apply call1 (hbn) ); (focus ((iterate 2 (all_goals (repeat' (first | exact subL_nil | exact trivial | (intro Q h; refine h ?_; clear h Q) | refine And.intro ?_ ?_ | refine subL_cons ?_ ?_ | exact sub_sl rfl rfl rfl | exact sub_refl_val _ _ | exact row_same rfl rfl rfl )))); done)); (try (any_goals fail)))
    | ((first | apply call1 (hsv) ); (focus ((iterate 2 (all_goals (repeat' (first | exact subL_nil | exact trivial | (intro Q h; refine h ?_; clear h Q) | refine And.intro ?_ ?_ | refine subL_cons ?_ ?_ | exact sub_sl rfl rfl rfl | exact sub_refl_val _ _ | exact row_same rfl rfl rfl )))); done)); (try (any_goals fail)))
    ))
  refine loop_inv (σ := Nat) (fun x => x ≤ l.length) (fun x => ⟨[(0, .val (.int .i64 n)), (1, aN l cap), (2, .val (.int .i64 a)), (11, .sl 1 1 0 n none), (12, .sl 2 1 0 n none), (14, .val (.int .i64 (AD x))), (15, .val (.int .i64 x))], [cB false l, fB n M, iB true Y]⟩) (fun x => l.length - x) (0) ?_ ?_ ?_
  · omega
  · (apply le_mk [some 0, some 1, some 3]; (focus (iterate 2 (all_goals (repeat' (first | exact trivial | (intro Q h; refine h ?_; clear h Q) | refine And.intro ?_ ?_ | exact sub_sl rfl rfl rfl | exact sub_refl_val _ _ | exact row_same rfl rfl rfl | exact row_ren rfl rfl rfl | ((first | refine sub_int ?_ ); first | with_reducible rfl | omega | ((try simp only [wS]); omega) | rfl) ))))); (any_goals (apply okIx_mk; rfl)))
    exact fam_ren rfl hMl rfl
  rw [show NN = 4611686018427387904 from rfl] at hAs hW hrr
  have hfa' : (famF intC 0 M (0 + Int.toNat a)).1 = n := hf1
  rintro x hx
  by_cases hxl : x < l.length
  · have hz : 0 + Int.toNat x = x := by omega
    have hc := hok _ (getD_mem l x cn0 hxl)
    have hAx := hAr x hx
    have hASx := hAs x
    have hY := hYr (0 + (l.getD (0 + Int.toNat x) cn0).a.toNat)
    have hRb := hrr (0 + (l.getD (0 + Int.toNat x) cn0).b.toNat) (by rw [hz]; omega)
    rw [← hz] at hc
    obtain ⟨⟨c0, c1⟩, ⟨d0, d1⟩, w0, w1⟩ := hc
    rw [show l.getD x cn0 = l.getD (0 + Int.toNat x) cn0 by rw [hz], ← hRg, ← Nat.zero_add (l.getD (0 + Int.toNat x) cn0).a.toNat, ← Nat.zero_add (l.getD (0 + Int.toNat x) cn0).b.toNat] at hASx
    rw [← hRg] at hRb
    have hw1 : ((M.getD (0 + Int.toNat a) []).getD (0 + (l.getD (0 + Int.toNat x) cn0).b.toNat) 0 ≠ 4611686018427387904) → IntKind.i64.wrap (IntKind.i64.wrap ((M.getD (0 + Int.toNat a) []).getD (0 + (l.getD (0 + Int.toNat x) cn0).b.toNat) 0 - Y.getD (0 + (l.getD (0 + Int.toNat x) cn0).a.toNat) 0) - (l.getD (0 + Int.toNat x) cn0).w) = (M.getD (0 + Int.toNat a) []).getD (0 + (l.getD (0 + Int.toNat x) cn0).b.toNat) 0 - (l.getD (0 + Int.toNat x) cn0).w - Y.getD (0 + (l.getD (0 + Int.toNat x) cn0).a.toNat) 0 := fun h => by
      have := hRb h
      rw [cwrap (n := (M.getD (0 + Int.toNat a) []).getD (0 + (l.getD (0 + Int.toNat x) cn0).b.toNat) 0 - Y.getD (0 + (l.getD (0 + Int.toNat x) cn0).a.toNat) 0) (by omega) (by omega)]
      rw [cwrap (by omega) (by omega)]
      omega
    have hno : ¬ ((M.getD (0 + Int.toNat a) []).getD (0 + (l.getD (0 + Int.toNat x) cn0).a.toNat) 0 = 4611686018427387904 ∧ (M.getD (0 + Int.toNat a) []).getD (0 + (l.getD (0 + Int.toNat x) cn0).b.toNat) 0 ≠ 4611686018427387904) → AD (x + 1) = AD x := fun h => by rw [hASx, if_neg h]
    have hyes : (M.getD (0 + Int.toNat a) []).getD (0 + (l.getD (0 + Int.toNat x) cn0).a.toNat) 0 = 4611686018427387904 → (M.getD (0 + Int.toNat a) []).getD (0 + (l.getD (0 + Int.toNat x) cn0).b.toNat) 0 ≠ 4611686018427387904 → IntKind.i64.wrap (IntKind.i64.wrap ((M.getD (0 + Int.toNat a) []).getD (0 + (l.getD (0 + Int.toNat x) cn0).b.toNat) 0 - Y.getD (0 + (l.getD (0 + Int.toNat x) cn0).a.toNat) 0) - (l.getD (0 + Int.toNat x) cn0).w) > AD x → AD (x + 1) = IntKind.i64.wrap (IntKind.i64.wrap ((M.getD (0 + Int.toNat a) []).getD (0 + (l.getD (0 + Int.toNat x) cn0).b.toNat) 0 - Y.getD (0 + (l.getD (0 + Int.toNat x) cn0).a.toNat) 0) - (l.getD (0 + Int.toNat x) cn0).w) := fun h1 h2 h3 => by
      rw [hw1 h2] at h3 ⊢
      rw [hASx, if_pos ⟨h1, h2⟩]
      unfold mxJ; rw [if_pos h3]
    have hsm : (M.getD (0 + Int.toNat a) []).getD (0 + (l.getD (0 + Int.toNat x) cn0).a.toNat) 0 = 4611686018427387904 → (M.getD (0 + Int.toNat a) []).getD (0 + (l.getD (0 + Int.toNat x) cn0).b.toNat) 0 ≠ 4611686018427387904 → IntKind.i64.wrap (IntKind.i64.wrap ((M.getD (0 + Int.toNat a) []).getD (0 + (l.getD (0 + Int.toNat x) cn0).b.toNat) 0 - Y.getD (0 + (l.getD (0 + Int.toNat x) cn0).a.toNat) 0) - (l.getD (0 + Int.toNat x) cn0).w) ≤ AD x → AD (x + 1) = AD x := fun h1 h2 h3 => by
      rw [hw1 h2] at h3
      rw [hASx, if_pos ⟨h1, h2⟩]
      unfold mxJ; rw [if_neg (by omega)]
    (repeat' (first
    | (intro Q h; refine h ?_; clear h Q)
    | (refine bcase_mk (fun hb => ?_) (fun hb => ?_) <;> (try simp only [nS, nT, eq_self, reduceCtorEq] at hb) <;> (try (exfalso; (omega); done)))
    | refine draw_mk (by decide +kernel) ?_
    | refine seq_go ?_
    | refine And.intro (by first | omega | ((try simp only [wS]); omega) | rfl | decide) ?_
    | (apply next_sub (Subtype.mk (x + 1) (by first | omega | (simp only; omega))); (focus (rw [hyes (by assumption) (by assumption) (by assumption)]; apply le_mk [some 0, some 1, some 2]; (focus (iterate 2 (all_goals (repeat' (first | exact fam_same rfl rfl rfl | exact trivial | (intro Q h; refine h ?_; clear h Q) | refine And.intro ?_ ?_ | exact sub_sl rfl rfl rfl | exact sub_refl_val _ _ | exact row_same rfl rfl rfl | ((first | refine sub_int ?_ ); first | with_reducible rfl | omega | ((try simp only [wS]); omega) | rfl) ))))); (any_goals (apply okIx_mk; rfl)))); (all_goals (try (first | (simp only; omega)))))
    | (apply next_sub (Subtype.mk (x + 1) (by first | omega | (simp only; omega))); (focus (rw [hsm (by assumption) (by assumption) (by omega)]; apply le_mk [some 0, some 1, some 2]; (focus (iterate 2 (all_goals (repeat' (first | exact fam_same rfl rfl rfl | exact trivial | (intro Q h; refine h ?_; clear h Q) | refine And.intro ?_ ?_ | exact sub_sl rfl rfl rfl | exact sub_refl_val _ _ | exact row_same rfl rfl rfl | ((first | refine sub_int ?_ ); first | with_reducible rfl | omega | ((try simp only [wS]); omega) | rfl) ))))); (any_goals (apply okIx_mk; rfl)))); (all_goals (try (first | (simp only; omega)))))
    | (apply next_sub (Subtype.mk (x + 1) (by first | omega | (simp only; omega))); (focus (rw [hno (fun ⟨g1, g2⟩ => by contradiction)]; apply le_mk [some 0, some 1, some 2]; (focus (iterate 2 (all_goals (repeat' (first | exact fam_same rfl rfl rfl | exact trivial | (intro Q h; refine h ?_; clear h Q) | refine And.intro ?_ ?_ | exact sub_sl rfl rfl rfl | exact sub_refl_val _ _ | exact row_same rfl rfl rfl | ((first | refine sub_int ?_ ); first | with_reducible rfl | omega | ((try simp only [wS]); omega) | rfl) ))))); (any_goals (apply okIx_mk; rfl)))); (all_goals (try (first | (simp only; omega)))))
    ))
  have hxx : l.length = x := by omega
  subst hxx
  have hAx := hAr l.length (Nat.le_refl _)
  generalize AD l.length = k at *
  have hW := hW k
  have hV := fun {x : Nat} => rgP_set (TW k) n (x := x)
  have hVl := rgP_len (TW k) n
  have hV0 : rgP (TW k) n 0 = List.replicate n 0 := by simp [rgP]
  generalize rgP (TW k) n = T at *
  generalize TW k = V at *
  (repeat' (first
    | (intro Q h; refine h ?_; clear h Q)
    | (refine bcase_mk (fun hb => ?_) (fun hb => ?_) <;> (try simp only [nS, nT, eq_self, reduceCtorEq] at hb) <;> (try (exfalso; (omega); done)))
    | refine seq_go ?_
    | refine And.intro (by first | omega | ((try simp only [wS]); omega) | rfl | decide) ?_
    ))
  refine loop_inv (σ := Nat) (fun x => x ≤ n) (fun x => ⟨[(0, .val (.int .i64 n)), (2, .val (.int .i64 a)), (11, .sl 1 1 0 n none), (12, .sl 2 1 0 n none), (14, .val (.int .i64 k)), (17, .sl 3 1 0 n none), (18, .val (.int .i64 x))], [cB false l, fB n M, iB true Y, iB true (T x)]⟩) (fun x => n - x) (0) ?_ ?_ ?_
  · omega
  · (apply le_mk [some 0, some 1, some 2, some 3]; (focus (iterate 2 (all_goals (repeat' (first | exact fam_same rfl rfl rfl | exact trivial | (intro Q h; refine h ?_; clear h Q) | refine And.intro ?_ ?_ | exact sub_sl rfl rfl rfl | exact sub_refl_val _ _ | exact row_same rfl rfl rfl ))))); (any_goals (apply okIx_mk; rfl)))
    exact row_rep (x := 0) (subL_cons (sub_refl_val _ _) subL_nil) (by rw [hV0, List.length_replicate]) (by rw [hV0, List.length_replicate, Int.toNat_natCast])
  rintro x hx
  have hTl := hVl x (by omega)
  have hRl : (M.getD (0 + Int.toNat a) []).length = n := by rw [hRg]; exact hrl
  by_cases hxn : x < n
  · have hz : 0 + Int.toNat x = x := by omega
    have hY := hYr (0 + Int.toNat x)
    have hVx := hV hxn
    have hWx := hW x
    rw [← hz, ← hRg] at hWx
    rw [show V (0 + Int.toNat x) = V x by rw [hz]] at hWx
    rw [show (T x).set x (V x) = (T x).set (0 + Int.toNat x) (V x) by rw [hz]] at hVx
    have hw2 : IntKind.i64.wrap (Y.getD (0 + Int.toNat x) 0 + k) = Y.getD (0 + Int.toNat x) 0 + k := cwrap (by omega) (by omega)
    have hno : ¬ (M.getD (0 + Int.toNat a) []).getD (0 + Int.toNat x) 0 = 4611686018427387904 → T (x + 1) = (T x).set (0 + Int.toNat x) ((M.getD (0 + Int.toNat a) []).getD (0 + Int.toNat x) 0) := fun h => by
      rw [hVx, hWx, if_neg h]
    have hyes : (M.getD (0 + Int.toNat a) []).getD (0 + Int.toNat x) 0 = 4611686018427387904 → T (x + 1) = ((T x).set (0 + Int.toNat x) ((M.getD (0 + Int.toNat a) []).getD (0 + Int.toNat x) 0)).set (0 + Int.toNat x) (Y.getD (0 + Int.toNat x) 0 + k) := fun h => by
      rw [hVx, hWx, if_pos h, List.set_set]
    generalize T x = F at *
    (repeat' (first
    | (intro Q h; refine h ?_; clear h Q)
    | (refine bcase_mk (fun hb => ?_) (fun hb => ?_) <;> (try simp only [nS, nT, eq_self, reduceCtorEq] at hb) <;> (try (exfalso; (omega); done)))
    | refine seq_go ?_
    | refine And.intro (by first | omega | ((try simp only [wS]); omega) | rfl | decide) ?_
    | (apply next_sub (Subtype.mk (x + 1) (by first | omega | (simp only; omega))); (focus (rw [hyes (by assumption)]; apply le_mk [some 0, some 1, some 2, some 3]; (focus (iterate 2 (all_goals (repeat' (first | exact fam_same rfl rfl rfl | exact trivial | (intro Q h; refine h ?_; clear h Q) | refine And.intro ?_ ?_ | exact sub_sl rfl rfl rfl | exact sub_refl_val _ _ | exact row_same rfl rfl rfl | ((first | refine sub_int ?_ ); first | with_reducible rfl | omega | ((try simp only [wS]); omega) | rfl) ))))); (any_goals (apply okIx_mk; rfl)))); (all_goals (try (first | (simp only; omega)))))
    | (apply next_sub (Subtype.mk (x + 1) (by first | omega | (simp only; omega))); (focus (rw [hno (by assumption)]; apply le_mk [some 0, some 1, some 2, some 3]; (focus (iterate 2 (all_goals (repeat' (first | exact fam_same rfl rfl rfl | (refine row_setl rfl (subL_cons (sub_int ?_) subL_nil) ?_ rfl rfl rfl) | exact trivial | (intro Q h; refine h ?_; clear h Q) | refine And.intro ?_ ?_ | exact sub_sl rfl rfl rfl | exact sub_refl_val _ _ | exact row_same rfl rfl rfl | ((first | refine sub_int ?_ ); first | with_reducible rfl | omega | ((try simp only [wS]); omega) | rfl) | with_reducible rfl ))))); (any_goals (apply okIx_mk; rfl)))); (all_goals (try (first | omega | (simp only; omega)))))
    ))
    refine row_is (isrow_set (x := Y.getD (0 + Int.toNat x) 0 + k) (isrow_set (x := (M.getD (0 + Int.toNat a) []).getD (0 + Int.toNat x) 0) (isrow_row rfl) rfl rfl rfl (cells_succ rfl cell0)) rfl rfl rfl (cells_succ ?_ cell0)) rfl (by rw [List.length_set, List.length_set])
    show AV.val (.int .i64 (IntKind.i64.wrap (Y.getD (0 + Int.toNat x) 0 + k))) = AV.val (.int .i64 (Y.getD (0 + Int.toNat x) 0 + k))
    rw [hw2]
  · have hxx : n = x := by omega
    subst hxx
    (repeat' (first
    | (intro Q h; refine h ?_; clear h Q)
    | (refine bcase_mk (fun hb => ?_) (fun hb => ?_) <;> (try simp only [nS, nT, eq_self, reduceCtorEq] at hb) <;> (try (exfalso; (omega); done)))
    | refine seq_go ?_
    | (apply ret_mk [some 0, some 3]; (focus (iterate 2 (all_goals (repeat' (first | exact subL_nil | exact trivial | (intro Q h; refine h ?_; clear h Q) | refine And.intro ?_ ?_ | refine subL_cons ?_ ?_ | refine sub_tup ?_ | exact sub_refl_val _ _ | exact row_same rfl rfl rfl | ((first | refine sub_sl rfl rfl ?_ ); first | with_reducible rfl | omega | ((try simp only [wS]); omega) | rfl) ))))); (any_goals (apply okIx_mk; rfl)))
    ))
end Go.Vx.L53

/- Lemmas of a small executor for the model, and contracts of functions, used for the law that this claim proves. No condition. -/
import Derived.Test.YtblcjjlggfpehaaBC19
set_option linter.unusedSimpArgs false
set_option linter.unusedVariables false
set_option maxRecDepth 100000
namespace Go.Vx.L53
open Go Go.Proofs
theorem row_off {α : Type} {cells : α → List AV} [FlatC cells] {d : α} {ρ : Nat → Option Nat} {rw rw' : Bool} {t e n n' : Nat} {l : List α} (h1 : (!rw || rw') = true) (hn : n' = n) :
    BSub ρ (.arr rw t e n (rowF cells d l)) (.arr rw' t e n' fun i j => rowF cells d l (0 + i) j) := by
  simp only [Nat.zero_add]; exact row_same h1 hn rfl
abbrev fB (n : Nat) (rs : List (List Int)) : Blk := .fam true 23 3 1 n (famF intC 0 rs) none 0
abbrev exL (l : List Cn) (n r : Nat) : List Int := lst l n (min r (n - 1))
theorem fill_set (n x : Nat) (h : x < n) (v w : Int) : List.replicate (x + 1) v ++ List.replicate (n - (x + 1)) w = (List.replicate x v ++ List.replicate (n - x) w).set x v := by
  rw [List.set_append_right _ _ (by simp), List.length_replicate, Nat.sub_self, show n - x = (n - (x + 1)) + 1 by omega, List.replicate_succ (n := n - (x + 1)), List.set_cons_zero, List.replicate_succ', List.append_assoc]
  rfl
set_option maxHeartbeats 2000000 in
theorem explore_ok (l : List Cn) (cap : Option Nat) (n : Nat) (hn : 1 ≤ n ∧ n ≤ 160) (hl : l.length ≤ 4096) (hok : allOK n l) :
    Runs Try.prog 45 [.val (.int .i64 n), aN l cap] [cB false l] (Det (.agg [.sl 1 1 0 n none, .sl 2 1 0 n none, .val (.int .i64 (endF (byN l n (n - 1))))]) [cB false l, iB true (lst l n (n - 1)), fB n (lss l n n)]) := by
  refine Runs.mk tabOK Try.call45 Try.func45 rfl Try.ntmps45 Try.results45 rfl ?_
  (repeat' (first
    | (intro Q h; refine h ?_; clear h Q)
    | refine seq_go ?_
    | refine And.intro (by first | omega | ((try simp only [wS]); omega) | rfl | decide) ?_
    ))
  refine loop_inv (σ := Nat) (fun x => x ≤ n) (fun x => ⟨[(0, .val (.int .i64 n)), (1, aN l cap), (4, .ptr 1 3 0 0), (5, .ptr 2 3 0 0), (17, .val (.int .i64 n)), (18, .val (.int .i64 x))], [cB false l, .var [.dead, .dead, .dead], .var [.sl 3 1 0 n none, .sl 4 1 0 x none, .val (.int .i64 (-1))], iB true (exL l n x), fB x (lss l n x)]⟩) (fun x => n - x) (0) ?_ ?_ ?_
  · omega
  · (apply le_mk [some 0, some 1, some 3, some 2, none]; (focus (iterate 2 (all_goals (repeat' (first | exact sub_dead | exact subL_nil | exact trivial | (intro Q h; refine h ?_; clear h Q) | refine And.intro ?_ ?_ | refine subL_cons ?_ ?_ | refine var_mk ?_ | exact sub_ptr rfl rfl | exact sub_sl rfl rfl rfl | exact sub_refl_val _ _ | exact row_same rfl rfl rfl | exact sub_nil rfl | ((first | show (_ : Nat) = _); first | with_reducible rfl | omega | ((try simp only [wS]); omega) | rfl) | with_reducible rfl ))))); (any_goals (apply okIx_mk; rfl)))
    all_goals (refine row_rep (x := 0) (subL_cons (sub_refl_val _ _) subL_nil) ?_ ?_ <;> simp [exL, lst])
  rintro r hr
  have hss := lss_len l n r
  have hXl : (exL l n r).length = n := lst_len l n _
  by_cases hrn : r < n
  · have hX1 : exL l n r = lst l n r := by unfold exL; rw [Nat.min_eq_left (by omega)]
    have hsn := lss_snoc l n r
    have hbd := lst_bnd hok r
    rw [← hX1] at hbd
    have hR1 := rlN_bnd hbd hok
    have hR2 := rlN_by (X := exL l n r) (l := l)
    have hR3 := rlN_len (exL l n r) l
    have hB : byN l n r = (rlN (exL l n r) l l.length).2 := by rw [hX1]; rfl
    have hB1 : lst l n (r + 1) = (rlN (exL l n r) l l.length).1 := by rw [hX1]; rfl
    have hB2 : exL l n (r + 1) = if r + 1 < n then lst l n (r + 1) else exL l n r := by
      split
      · unfold exL; rw [Nat.min_eq_left (by omega)]
      · unfold exL; rw [Nat.min_eq_right (by omega), Nat.min_eq_left (by omega)]; congr 1; omega
    rw [hXl] at hR3
    have hr0 : (rlN (exL l n r) l 0) = (exL l n r, List.replicate n (-1)) := by show (exL l n r, List.replicate (exL l n r).length (-1)) = _; rw [hXl]
    have hrS : ∀ x, rlN (exL l n r) l (x + 1) = rl1 (exL l n r) x (l.getD x cn0) (rlN (exL l n r) l x) := fun _ => rfl
    generalize hX : exL l n r = X at *
    generalize lss l n r = S at *
    (repeat' (first
    | (intro Q h; refine h ?_; clear h Q)
    | (refine bcase_mk (fun hb => ?_) (fun hb => ?_) <;> (try simp only [nS, nT, eq_self, reduceCtorEq] at hb) <;> (try (exfalso; (omega); done)))
    | refine cp_full (by first | with_reducible rfl | omega | ((try simp only [wS]); omega) | rfl) (by first | with_reducible rfl | omega | ((try simp only [wS]); omega) | rfl) (by first | with_reducible rfl | omega | ((try simp only [wS]); omega) | rfl) ?_
    | refine seq_go ?_
    | refine And.intro (by first | omega | ((try simp only [wS]); omega) | rfl | decide) ?_
    ))
    refine loop_inv (σ := Nat) (fun x => x ≤ n) (fun x => ⟨[(0, .val (.int .i64 n)), (1, aN l cap), (4, .ptr 1 3 0 0), (5, .ptr 2 3 0 0), (6, .sl 5 1 0 n none), (7, .sl 6 1 0 n none), (17, .val (.int .i64 n)), (18, .val (.int .i64 r)), (29, .val (.int .i64 n)), (30, .val (.int .i64 x))], [cB false l, .var [.dead, .dead, .dead], .var [.sl 3 1 0 n none, .sl 4 1 0 r none, .val (.int .i64 (-1))], iB true X, fB r S, iB true X, iB true (List.replicate x (-1) ++ List.replicate (n - x) 0)]⟩) (fun x => n - x) (0) ?_ ?_ ?_
    · omega
    · (apply le_mk [some 0, some 1, some 2, some 3, some 4, some 5, some 6]; (focus (iterate 2 (all_goals (repeat' (first | exact sub_dead | exact fam_same rfl rfl rfl | exact subL_nil | exact trivial | (intro Q h; refine h ?_; clear h Q) | refine And.intro ?_ ?_ | refine subL_cons ?_ ?_ | refine var_mk ?_ | exact sub_ptr rfl rfl | exact sub_sl rfl rfl rfl | exact sub_refl_val _ _ | exact row_same rfl rfl rfl ))))); (any_goals (apply okIx_mk; rfl)))
      all_goals first
        | exact row_off rfl hXl.symm
        | exact row_rep (x := 0) (subL_cons (sub_refl_val _ _) subL_nil) (by simp) (by simp)
        | fail
    rintro x hx
    by_cases hxn : x < n
    · have hz : 0 + Int.toNat x = x := by omega
      have hf := fill_set n x hxn (-1) 0
      have hfl : (List.replicate x (-1 : Int) ++ List.replicate (n - x) 0).length = n := by simp; omega
      generalize List.replicate x (-1 : Int) ++ List.replicate (n - x) 0 = F at *
      have hf' : List.replicate (x + 1) (-1) ++ List.replicate (n - (x + 1)) 0 = F.set (0 + Int.toNat x) (-1) := by rw [hz]; exact hf
      (repeat' (first
    | (intro Q h; refine h ?_; clear h Q)
    | (refine bcase_mk (fun hb => ?_) (fun hb => ?_) <;> (try simp only [nS, nT, eq_self, reduceCtorEq] at hb) <;> (try (exfalso; (omega); done)))
    | refine seq_go ?_
    | refine And.intro (by first | omega | ((try simp only [wS]); omega) | rfl | decide) ?_
    | (apply next_sub (Subtype.mk (x + 1) (by first | omega | (simp only; omega))); (focus (rw [hf']; apply le_mk [some 0, some 1, some 2, some 3, some 4, some 5, some 6]; (focus (iterate 2 (all_goals (repeat' (first | exact sub_dead | exact fam_same rfl rfl rfl | (refine row_setl rfl (subL_cons (sub_int ?_) subL_nil) ?_ rfl rfl rfl) | exact subL_nil | exact trivial | (intro Q h; refine h ?_; clear h Q) | refine And.intro ?_ ?_ | refine subL_cons ?_ ?_ | refine var_mk ?_ | exact sub_ptr rfl rfl | exact sub_sl rfl rfl rfl | exact sub_refl_val _ _ | exact row_same rfl rfl rfl | ((first | refine sub_int ?_ ); first | with_reducible rfl | omega | ((try simp only [wS]); omega) | rfl) | with_reducible rfl ))))); (any_goals (apply okIx_mk; rfl)))); (all_goals (try (first | omega | (simp only; omega)))))
    ))
    have hxx : n = x := by omega
    subst hxx
    rw [Nat.sub_self, List.replicate_zero, List.append_nil]
    (repeat' (first
    | (intro Q h; refine h ?_; clear h Q)
    | (refine bcase_mk (fun hb => ?_) (fun hb => ?_) <;> (try simp only [nS, nT, eq_self, reduceCtorEq] at hb) <;> (try (exfalso; (omega); done)))
    | refine seq_go ?_
    ))
    refine loop_inv (σ := Nat) (fun x => x ≤ l.length) (fun x => ⟨[(0, .val (.int .i64 n)), (1, aN l cap), (4, .ptr 1 3 0 0), (5, .ptr 2 3 0 0), (6, .sl 5 1 0 n none), (7, .sl 6 1 0 n none), (17, .val (.int .i64 n)), (18, .val (.int .i64 r)), (37, aN l cap), (38, .val (.int .i64 l.length)), (39, .val (.int .i64 x))], [cB false l, .var [.dead, .dead, .dead], .var [.sl 3 1 0 n none, .sl 4 1 0 r none, .val (.int .i64 (-1))], iB true X, fB r S, iB true (rlN X l x).1, iB true (rlN X l x).2]⟩) (fun x => l.length - x) (0) ?_ ?_ ?_
    · omega
    · rw [hr0]
      (apply le_mk [some 0, some 1, some 2, some 3, some 4, some 5, some 6]; (focus (iterate 2 (all_goals (repeat' (first | exact sub_dead | exact fam_same rfl rfl rfl | exact subL_nil | exact trivial | (intro Q h; refine h ?_; clear h Q) | refine And.intro ?_ ?_ | refine subL_cons ?_ ?_ | refine var_mk ?_ | exact sub_ptr rfl rfl | exact sub_sl rfl rfl rfl | exact sub_refl_val _ _ | exact row_same rfl rfl rfl ))))); (any_goals (apply okIx_mk; rfl)))
    rintro y hy
    obtain ⟨l1, l2⟩ := hR3 y
    by_cases hyl : y < l.length
    · have hz : 0 + Int.toNat y = y := by omega
      have hc := hok _ (getD_mem l y cn0 hyl)
      have hS := hrS y
      have hb1 := hbd (l.getD y cn0).a.toNat
      have hb2 := hR1 y hy (l.getD y cn0).b.toNat
      generalize rlN X l y = p at *
      rw [← hz, ← Nat.zero_add (l.getD (0 + Int.toNat y) cn0).a.toNat] at hb1
      rw [← hz, ← Nat.zero_add (l.getD (0 + Int.toNat y) cn0).b.toNat] at hb2
      rw [← hz] at hc
      obtain ⟨⟨a0, a1⟩, ⟨b0, b1⟩, w0, w1⟩ := hc
      have hno : ¬ X.getD (0 + (l.getD (0 + Int.toNat y) cn0).a.toNat) 0 + (l.getD (0 + Int.toNat y) cn0).w < p.1.getD (0 + (l.getD (0 + Int.toNat y) cn0).b.toNat) 0 → rlN X l (y + 1) = p := fun h => by
        rw [hz] at h
        rw [Nat.zero_add, Nat.zero_add] at h
        rw [hS]; unfold rl1; rw [if_neg h]
      have hyes : X.getD (0 + (l.getD (0 + Int.toNat y) cn0).a.toNat) 0 + (l.getD (0 + Int.toNat y) cn0).w < p.1.getD (0 + (l.getD (0 + Int.toNat y) cn0).b.toNat) 0 → rlN X l (y + 1) = (p.1.set (0 + (l.getD (0 + Int.toNat y) cn0).b.toNat) (X.getD (0 + (l.getD (0 + Int.toNat y) cn0).a.toNat) 0 + (l.getD (0 + Int.toNat y) cn0).w), p.2.set (0 + (l.getD (0 + Int.toNat y) cn0).b.toNat) (y : Int)) := fun h => by
        rw [hz] at h ⊢
        simp only [Nat.zero_add] at h ⊢
        rw [hS]; unfold rl1; rw [if_pos h]
      have hw : IntKind.i64.wrap (X.getD (0 + (l.getD (0 + Int.toNat y) cn0).a.toNat) 0 + (l.getD (0 + Int.toNat y) cn0).w) = X.getD (0 + (l.getD (0 + Int.toNat y) cn0).a.toNat) 0 + (l.getD (0 + Int.toNat y) cn0).w := cwrap (by omega) (by omega)
      (repeat' (first
    | (intro Q h; refine h ?_; clear h Q)
    | (refine bcase_mk (fun hb => ?_) (fun hb => ?_) <;> (try simp only [nS, nT, eq_self, reduceCtorEq] at hb) <;> (try (exfalso; (omega); done)))
    | refine draw_mk (by decide +kernel) ?_
    | refine seq_go ?_
    | refine And.intro (by first | omega | ((try simp only [wS]); omega) | rfl | decide) ?_
    | (apply next_sub (Subtype.mk (y + 1) (by first | omega | (simp only; omega))); (focus (rw [hyes (by omega)]; apply le_mk [some 0, some 1, some 2, some 3, some 4, some 5, some 6]; (focus (iterate 2 (all_goals (repeat' (first | exact sub_dead | exact fam_same rfl rfl rfl | (refine row_setl rfl (subL_cons (sub_int ?_) subL_nil) ?_ rfl rfl rfl) | exact subL_nil | exact trivial | (intro Q h; refine h ?_; clear h Q) | refine And.intro ?_ ?_ | refine subL_cons ?_ ?_ | refine var_mk ?_ | exact sub_ptr rfl rfl | exact sub_sl rfl rfl rfl | exact sub_refl_val _ _ | exact row_same rfl rfl rfl | ((first | refine sub_int ?_ ); first | with_reducible rfl | omega | ((try simp only [wS]); omega) | rfl) | with_reducible rfl | (refine And.left (b := True) ⟨?_, True.intro⟩; assumption) ))))); (any_goals (apply okIx_mk; rfl)))); (all_goals (try (first | omega | (simp only; omega)))))
    | (apply next_sub (Subtype.mk (y + 1) (by first | omega | (simp only; omega))); (focus (rw [hno (by omega)]; apply le_mk [some 0, some 1, some 2, some 3, some 4, some 5, some 6]; (focus (iterate 2 (all_goals (repeat' (first | exact sub_dead | exact fam_same rfl rfl rfl | exact subL_nil | exact trivial | (intro Q h; refine h ?_; clear h Q) | refine And.intro ?_ ?_ | refine subL_cons ?_ ?_ | refine var_mk ?_ | exact sub_ptr rfl rfl | exact sub_sl rfl rfl rfl | exact sub_refl_val _ _ | exact row_same rfl rfl rfl | ((first | refine sub_int ?_ ); first | with_reducible rfl | omega | ((try simp only [wS]); omega) | rfl) ))))); (any_goals (apply okIx_mk; rfl)))); (all_goals (try (first | (simp only; omega)))))
    ))
    have hyy : l.length = y := by omega
    subst hyy
    rw [hB] at hsn
    rw [hB1] at hB2
    clear hR1 hR2 hR3 hrS hr0 hB hB1 hbd
    generalize (rlN X l l.length).1 = Y at *
    generalize (rlN X l l.length).2 = Z at *
    by_cases hrn1 : r + 1 < n
    · rw [if_pos hrn1] at hB2
      (repeat' (first
    | (intro Q h; refine h ?_; clear h Q)
    | (refine bcase_mk (fun hb => ?_) (fun hb => ?_) <;> (try simp only [nS, nT, eq_self, reduceCtorEq] at hb) <;> (try (exfalso; (omega); done)))
    | refine And.intro (by first | omega | ((try simp only [wS]); omega) | rfl | decide) ?_
    | (apply next_sub (Subtype.mk (r + 1) (by first | omega | (simp only; omega))); (focus (rw [hB2, hsn]; apply le_mk [some 0, some 1, some 2, some 5, some 8]; (focus (iterate 2 (all_goals (repeat' (first | exact sub_dead | exact subL_nil | exact trivial | (intro Q h; refine h ?_; clear h Q) | refine And.intro ?_ ?_ | refine subL_cons ?_ ?_ | refine var_mk ?_ | exact sub_ptr rfl rfl | exact sub_sl rfl rfl rfl | exact sub_refl_val _ _ | exact row_same rfl rfl rfl | ((first | refine sub_int ?_ ); first | with_reducible rfl | omega | ((try simp only [wS]); omega) | rfl) ))))); (any_goals (apply okIx_mk; rfl)))); (all_goals (try (first | (simp only; omega)))))
    ))
      all_goals (exact fam_app (l := Z) (row_same rfl l2.symm rfl) l2.symm rfl hss.symm rfl rfl)
    · rw [if_neg hrn1] at hB2
      (repeat' (first
    | (intro Q h; refine h ?_; clear h Q)
    | (refine bcase_mk (fun hb => ?_) (fun hb => ?_) <;> (try simp only [nS, nT, eq_self, reduceCtorEq] at hb) <;> (try (exfalso; (omega); done)))
    | refine And.intro (by first | omega | ((try simp only [wS]); omega) | rfl | decide) ?_
    | (apply next_sub (Subtype.mk (r + 1) (by first | omega | (simp only; omega))); (focus (rw [hB2, hsn]; apply le_mk [some 0, some 1, some 2, some 3, some 8]; (focus (iterate 2 (all_goals (repeat' (first | exact sub_dead | exact subL_nil | exact trivial | (intro Q h; refine h ?_; clear h Q) | refine And.intro ?_ ?_ | refine subL_cons ?_ ?_ | refine var_mk ?_ | exact sub_ptr rfl rfl | exact sub_sl rfl rfl rfl | exact sub_refl_val _ _ | exact row_same rfl rfl rfl | ((first | refine sub_int ?_ ); first | with_reducible rfl | omega | ((try simp only [wS]); omega) | rfl) ))))); (any_goals (apply okIx_mk; rfl)))); (all_goals (try (first | (simp only; omega)))))
    ))
      all_goals (exact fam_app (l := Z) (row_same rfl l2.symm rfl) l2.symm rfl hss.symm rfl rfl)
  have hrr : n = r := by omega
  subst hrr
  have hE : exL l n n = lst l n (n - 1) := by unfold exL; rw [Nat.min_eq_right (by omega)]
  have hget := lss_get l n (r := n) (k := n - 1) (by omega)
  have hbl := byN_len l n (n - 1)
  have hes := fun x => endF_some (D := byN l n (n - 1)) (x := x)
  have hen := endF_none (D := byN l n (n - 1))
  have hf1 := famF_fst intC 0 (lss l n n) (n - 1)
  have hf2 := famF_snd intC 0 (lss l n n) (n - 1)
  rw [hget] at hf1 hf2
  rw [hE]
  generalize byN l n (n - 1) = D at *
  generalize lst l n (n - 1) = X at *
  generalize lss l n n = S at *
  have hix : 0 + Int.toNat (IntKind.i64.wrap ((n : Int) - 1)) = n - 1 := by rw [cwrap (by omega) (by omega)]; omega
  (repeat' (first
    | (intro Q h; refine h ?_; clear h Q)
    | (refine bcase_mk (fun hb => ?_) (fun hb => ?_) <;> (try simp only [nS, nT, eq_self, reduceCtorEq] at hb) <;> (try (exfalso; (omega); done)))
    | refine seq_go ?_
    | refine And.intro (by first | omega | ((try simp only [wS]); omega) | rfl | decide) ?_
    ))
  refine loop_inv (σ := Nat) (fun x => x ≤ n ∧ ∀ y, y < x → D.getD y 0 < 0) (fun x => ⟨[(4, .ptr 1 3 0 0), (5, .ptr 2 3 0 0), (90, .sl 5 1 0 n none), (91, .val (.int .i64 n)), (92, .val (.int .i64 x))], [cB false l, .var [.dead, .dead, .dead], .var [.sl 3 1 0 n none, .sl 4 1 0 n none, .val (.int .i64 (-1))], iB true X, fB n S, .row 4 (n - 1)]⟩) (fun x => n - x) (0) ?_ ?_ ?_
  · exact ⟨by omega, fun y hy => by omega⟩
  · (apply le_mk [some 0, some 1, some 2, some 3, some 4, some 5]; (focus (iterate 2 (all_goals (repeat' (first | exact sub_dead | exact fam_same rfl rfl rfl | (refine row_nm rfl ?_) | exact subL_nil | exact trivial | (intro Q h; refine h ?_; clear h Q) | refine And.intro ?_ ?_ | refine subL_cons ?_ ?_ | refine var_mk ?_ | exact sub_ptr rfl rfl | exact sub_sl rfl rfl rfl | exact sub_refl_val _ _ | exact row_same rfl rfl rfl | ((first | refine sub_int ?_ | refine sub_sl rfl rfl ?_ | show (_ : Nat) = _); first | with_reducible rfl | omega | ((try simp only [wS]); omega) | rfl) | refine sub_int ?_ | refine sub_sl rfl rfl ?_ ))))); (any_goals (apply okIx_mk; rfl)))
    all_goals (rw [hix, hf1, hbl])
  rintro x ⟨hx, hneg⟩
  by_cases hxn : x < n
  · have hz : 0 + Int.toNat x = x := by omega
    have hes := hes x (by omega) hneg
    have hsn : D.getD (0 + Int.toNat x) 0 < 0 → ∀ y, y < x + 1 → D.getD y 0 < 0 := fun h y hy => by
      rw [hz] at h
      by_cases e : y = x
      · rw [e]; exact h
      · exact hneg y (by omega)
    rw [← hz] at hes
    rw [show ((0 + Int.toNat x : Nat) : Int) = (x : Int) by omega] at hes
    (repeat' (first
    | (intro Q h; refine h ?_; clear h Q)
    | (refine bcase_mk (fun hb => ?_) (fun hb => ?_) <;> (try simp only [nS, nT, eq_self, reduceCtorEq] at hb) <;> (try (exfalso; (omega); done)))
    | refine seq_go ?_
    | refine And.intro (by first | omega | ((try simp only [wS]); omega) | rfl | decide) ?_
    | (apply next_sub (Subtype.mk (x + 1) _); (focus (apply le_mk [some 0, some 1, some 2, some 3, some 4, some 5]; (focus (iterate 2 (all_goals (repeat' (first | exact sub_dead | exact fam_same rfl rfl rfl | exact row_nm rfl rfl | exact subL_nil | exact trivial | (intro Q h; refine h ?_; clear h Q) | refine And.intro ?_ ?_ | refine subL_cons ?_ ?_ | refine var_mk ?_ | exact sub_ptr rfl rfl | exact sub_sl rfl rfl rfl | exact sub_refl_val _ _ | exact row_same rfl rfl rfl | ((first | refine sub_int ?_ ); first | with_reducible rfl | omega | ((try simp only [wS]); omega) | rfl) ))))); (any_goals (apply okIx_mk; rfl)))); (all_goals (try (first | (simp only; omega)))))
    | (apply ret_mk [some 0, some 3, some 4]; (focus (iterate 2 (all_goals (repeat' (first | exact fam_same rfl rfl rfl | exact subL_nil | exact trivial | (intro Q h; refine h ?_; clear h Q) | refine And.intro ?_ ?_ | refine subL_cons ?_ ?_ | refine sub_agg ?_ | exact sub_sl rfl rfl rfl | exact row_same rfl rfl rfl | refine sub_int ?_ ))))); (any_goals (apply okIx_mk; rfl)))
    ))
    all_goals first
      | (rw [hes (by rw [← hget]; exact hb)]; done)
      | exact hsn (by rw [← hget]; exact hb)
      | fail
  · have hxx : n = x := by omega
    subst hxx
    have hen := hen fun y hy => hneg y (by omega)
    (repeat' (first
    | (intro Q h; refine h ?_; clear h Q)
    | (refine bcase_mk (fun hb => ?_) (fun hb => ?_) <;> (try simp only [nS, nT, eq_self, reduceCtorEq] at hb) <;> (try (exfalso; (omega); done)))
    | (apply ret_mk [some 0, some 3, some 4]; (focus (iterate 2 (all_goals (repeat' (first | exact fam_same rfl rfl rfl | exact subL_nil | exact trivial | (intro Q h; refine h ?_; clear h Q) | refine And.intro ?_ ?_ | refine subL_cons ?_ ?_ | refine sub_agg ?_ | exact sub_sl rfl rfl rfl | exact row_same rfl rfl rfl | ((first | refine sub_int ?_ ); first | with_reducible rfl | omega | ((try simp only [wS]); omega) | rfl) ))))); (any_goals (apply okIx_mk; rfl)))
    ))
end Go.Vx.L53

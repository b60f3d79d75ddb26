/- Lemmas of a small executor for the model, and contracts of functions, used for the law that this claim proves. No condition. -/
import Derived.Test.YtblcjjlggfpehaaBC24
import Derived.Test.YtblcjjlggfpehaaBC38
import Derived.Test.YtblcjjlggfpehaaBD9
set_option linter.unusedSimpArgs false
set_option linter.unusedVariables false
set_option maxRecDepth 100000
namespace Go.Vx.L53
open Go Go.Proofs
/-- The room of a literal is known until it grows. -/
def capB : Nat → Option Nat
  | 0 => some 1
  | _ + 1 => none
set_option maxHeartbeats 4000000 in
theorem rcycle_ok (n : Int) (l : List Cn) (cap : Option Nat) (hl : l.length ≤ maxLen) :
    Runs Try.prog 48 [.val (.int .i64 n), aN l cap] [cB false l] (Det (.tup [.sl 1 1 0 (rcyA n l).length none, .sb (cycO n l)]) [cB false l, iB true (rcyA n l)]) := by
  have hck := rcchk_ok n l cap hl
  by_cases h0 : cchk n l = 0
  rotate_left
  · have hA : rcyA n l = [] := by unfold rcyA; rw [if_neg (fun h => h0 h.1)]
    have hO : cycO n l = false := by unfold cycO; rw [decide_eq_false h0]; rfl
    rw [hA, hO]
    generalize cchk n l = w at *
    refine Runs.mk tabOK Try.call48 Try.func48 rfl Try.ntmps48 Try.results48 rfl ?_
    (repeat' (first
    | (intro Q h; refine h ?_; clear h Q)
    | (refine bcase_mk (fun hb => ?_) (fun hb => ?_) <;> (try simp only [nS, nT, eq_self, reduceCtorEq] at hb) <;> (try (exfalso; (omega); done)))
    | refine seq_go ?_
    | ((first | apply call1 (hck) ); (focus (iterate 2 (all_goals (repeat' (first | exact subL_nil | exact trivial | (intro Q h; refine h ?_; clear h Q) | refine And.intro ?_ ?_ | refine subL_cons ?_ ?_ | exact sub_sl rfl rfl rfl | exact sub_refl_val _ _ | exact row_same rfl rfl rfl ))))); (try (any_goals fail)))
    | (apply ret_mk [some 0, none]; (focus (iterate 2 (all_goals (repeat' (first | exact subL_nil | exact trivial | (intro Q h; refine h ?_; clear h Q) | refine And.intro ?_ ?_ | refine subL_cons ?_ ?_ | refine sub_tup ?_ | exact sub_sbl rfl | exact row_same rfl rfl rfl | exact sub_nil rfl | ((first | refine virt_mk ?_ ); first | with_reducible rfl | omega | ((try simp only [wS]); omega) | rfl) ))))); (any_goals (apply okIx_mk; rfl)))
    ))
  obtain ⟨n, rfl, hm, hl4, hok⟩ := cchk_zero h0
  have hO : cycO n l = cyc l n := by unfold cycO; rw [decide_eq_true h0, Int.toNat_natCast]; rfl
  have hA : rcyA n l = if cyc l n = true then (rcB l n).reverse else [] := by
    unfold rcyA; rw [Int.toNat_natCast]
    by_cases h : cyc l n = true
    · rw [if_pos ⟨h0, h⟩, if_pos h]
    · rw [if_neg (fun g => h g.2), if_neg h]
  have hno : ∀ r, chgL (byN l n r) = false → rcyA n l = [] ∧ cycO n l = false := fun r h => by
    have : cyc l n = false := (cyc_iff hm.1 hok).2 ⟨_, lst_pot hok h⟩
    rw [this] at hA hO
    exact ⟨hA, hO⟩
  rw [h0] at hck
  refine Runs.mk tabOK Try.call48 Try.func48 rfl Try.ntmps48 Try.results48 rfl ?_
  (repeat' (first
    | (intro Q h; refine h ?_; clear h Q)
    | (refine bcase_mk (fun hb => ?_) (fun hb => ?_) <;> (try simp only [nS, nT, eq_self, reduceCtorEq] at hb) <;> (try (exfalso; (omega); done)))
    | refine seq_go ?_
    | refine And.intro (by first | omega | ((try simp only [wS]); omega) | rfl | decide) ?_
    | ((first | apply call1 (hck) ); (focus (iterate 2 (all_goals (repeat' (first | exact subL_nil | exact trivial | (intro Q h; refine h ?_; clear h Q) | refine And.intro ?_ ?_ | refine subL_cons ?_ ?_ | exact sub_sl rfl rfl rfl | exact sub_refl_val _ _ | exact row_same rfl rfl rfl ))))); (try (any_goals fail)))
    ))
  refine loop_inv (σ := Nat) (fun x => x ≤ n + 1 ∧ ∀ y, y < x → chgL (byN l n y) = true) (fun x => ⟨[(0, .val (.int .i64 n)), (1, aN l cap), (6, .sl 1 1 0 n none), (7, .sl 2 1 0 n none), (8, .val (.int .i64 (lbR l n x))), (9, .val (.int .i64 x))], [cB false l, iB true (lst l n x), iB true (csR l n x)]⟩) (fun x => n + 1 - x) (0) ?_ ?_ ?_
  · exact ⟨by omega, fun y h => by omega⟩
  · (apply le_mk [some 0, some 1, some 2]; (focus (iterate 2 (all_goals (repeat' (first | exact trivial | (intro Q h; refine h ?_; clear h Q) | refine And.intro ?_ ?_ | exact sub_sl rfl rfl rfl | exact sub_refl_val _ _ | exact row_same rfl rfl rfl ))))); (any_goals (apply okIx_mk; rfl)))
    all_goals (refine row_rep (x := 0) (subL_cons (sub_refl_val _ _) subL_nil) ?_ ?_ <;> simp [lst, csR])
  rintro r ⟨hr, hch⟩
  obtain ⟨hDl, hDc⟩ := csR_ok hok r
  by_cases hrn : r < n + 1
  · have hXl : (lst l n r).length = n := lst_len l n _
    have hbd := lst_bnd hok r
    have hR1 := rlN_bnd hbd hok
    have hR3 := rlN_len (lst l n r) l
    have hC := rcN_ok hok hXl hDl hDc
    have hCf := rcN_fst (lst l n r) (csR l n r) l
    have hB : byN l n r = (rlN (lst l n r) l l.length).2 := rfl
    have hB1 : lst l n (r + 1) = (rcN (lst l n r) (csR l n r) l l.length).1 := by rw [hCf]; rfl
    have hB2 : csR l n (r + 1) = (rcN (lst l n r) (csR l n r) l l.length).2.1 := rfl
    have hB3 : lbR l n (r + 1) = (rcN (lst l n r) (csR l n r) l l.length).2.2 := rfl
    have hla := laR_ok hok r
    rw [show laR l n r = (rcN (lst l n r) (csR l n r) l l.length).2.2 from rfl] at hla
    rw [hXl] at hR3
    have hr0 : (rcN (lst l n r) (csR l n r) l 0) = (lst l n r, csR l n r, -1) := rfl
    have hrS : ∀ x, rcN (lst l n r) (csR l n r) l (x + 1) = rc1 (lst l n r) x (l.getD x cn0) (rcN (lst l n r) (csR l n r) l x) := fun _ => rfl
    generalize lbR l n r = la at *
    generalize hX : lst l n r = X at *
    generalize hD : csR l n r = D at *
    (repeat' (first
    | (intro Q h; refine h ?_; clear h Q)
    | (refine bcase_mk (fun hb => ?_) (fun hb => ?_) <;> (try simp only [nS, nT, eq_self, reduceCtorEq] at hb) <;> (try (exfalso; (omega); done)))
    | refine seq_go ?_
    | refine And.intro (by first | omega | ((try simp only [wS]); omega) | rfl | decide) ?_
    ))
    refine loop_inv (σ := Nat) (fun x => x ≤ l.length) (fun x => ⟨[(0, .val (.int .i64 n)), (1, aN l cap), (6, .sl 1 1 0 n none), (7, .sl 2 1 0 n none), (8, .val (.int .i64 (rcN X D l x).2.2)), (9, .val (.int .i64 r)), (10, .sl 3 1 0 n none), (11, .val (.int .i64 x))], [cB false l, iB true X, iB true (rcN X D l x).2.1, iB true (rcN X D l x).1]⟩) (fun x => l.length - x) (0) ?_ ?_ ?_
    · omega
    · rw [hr0]
      (apply le_mk [some 0, some 1, some 2, some 4]; (focus (iterate 2 (all_goals (repeat' (first | exact trivial | (intro Q h; refine h ?_; clear h Q) | refine And.intro ?_ ?_ | exact sub_sl rfl rfl rfl | exact sub_refl_val _ _ | exact row_same rfl rfl rfl | ((first | refine sub_sl rfl rfl ?_ ); first | with_reducible rfl | omega | ((try simp only [wS]); omega) | rfl) ))))); (any_goals (apply okIx_mk; rfl)))
      all_goals (refine row_is (L' := [] ++ (X.drop 0).take n) (isrow_app rfl isrow_nil (isrow_shift (by omega))) ?_ rfl; rw [List.nil_append, List.drop_zero, List.take_of_length_le (by omega)])
    rintro y hy
    obtain ⟨l1, l2⟩ := hR3 y
    obtain ⟨d1, d2, d3, _⟩ := hC y hy
    by_cases hyl : y < l.length
    · have hz : 0 + Int.toNat y = y := by omega
      have hc := hok _ (getD_mem l y cn0 hyl)
      have hS := hrS y
      have hb1 := hbd (l.getD y cn0).a.toNat
      have hb2 := hR1 y hy (l.getD y cn0).b.toNat
      rw [← hCf] at hb2 l1
      generalize rcN X D l y = p at *
      rw [← hz, ← Nat.zero_add (l.getD (0 + Int.toNat y) cn0).a.toNat] at hb1
      rw [← hz, ← Nat.zero_add (l.getD (0 + Int.toNat y) cn0).b.toNat] at hb2
      rw [← hz] at hc
      obtain ⟨⟨a0, a1⟩, ⟨b0, b1⟩, w0, w1⟩ := hc
      have hn : ¬ X.getD (0 + (l.getD (0 + Int.toNat y) cn0).a.toNat) 0 + (l.getD (0 + Int.toNat y) cn0).w < p.1.getD (0 + (l.getD (0 + Int.toNat y) cn0).b.toNat) 0 → rcN X D l (y + 1) = p := fun h => by
        rw [hz] at h
        rw [Nat.zero_add, Nat.zero_add] at h
        rw [hS]; unfold rc1; rw [if_neg h]
      have hyes : X.getD (0 + (l.getD (0 + Int.toNat y) cn0).a.toNat) 0 + (l.getD (0 + Int.toNat y) cn0).w < p.1.getD (0 + (l.getD (0 + Int.toNat y) cn0).b.toNat) 0 → rcN X D l (y + 1) = (p.1.set (0 + (l.getD (0 + Int.toNat y) cn0).b.toNat) (X.getD (0 + (l.getD (0 + Int.toNat y) cn0).a.toNat) 0 + (l.getD (0 + Int.toNat y) cn0).w), p.2.1.set (0 + (l.getD (0 + Int.toNat y) cn0).b.toNat) (y : Int), (l.getD (0 + Int.toNat y) cn0).b) := fun h => by
        rw [hz] at h ⊢
        simp only [Nat.zero_add] at h ⊢
        rw [hS]; unfold rc1; rw [if_pos h]
      have hw : IntKind.i64.wrap (X.getD (0 + (l.getD (0 + Int.toNat y) cn0).a.toNat) 0 + (l.getD (0 + Int.toNat y) cn0).w) = X.getD (0 + (l.getD (0 + Int.toNat y) cn0).a.toNat) 0 + (l.getD (0 + Int.toNat y) cn0).w := cwrap (by omega) (by omega)
      (repeat' (first
    | (intro Q h; refine h ?_; clear h Q)
    | (refine bcase_mk (fun hb => ?_) (fun hb => ?_) <;> (try simp only [nS, nT, eq_self, reduceCtorEq] at hb) <;> (try (exfalso; (omega); done)))
    | refine draw_mk (by decide +kernel) ?_
    | refine seq_go ?_
    | refine And.intro (by first | omega | ((try simp only [wS]); omega) | rfl | decide) ?_
    | (apply next_sub (Subtype.mk (y + 1) (by first | omega | (simp only; omega))); (focus (rw [hyes (by omega)]; apply le_mk [some 0, some 1, some 2, some 3]; (focus (iterate 2 (all_goals (repeat' (first | (refine row_setl rfl (subL_cons (sub_int ?_) subL_nil) ?_ rfl rfl rfl) | exact trivial | (intro Q h; refine h ?_; clear h Q) | refine And.intro ?_ ?_ | exact sub_sl rfl rfl rfl | exact sub_refl_val _ _ | exact row_same rfl rfl rfl | ((first | refine sub_int ?_ ); first | with_reducible rfl | omega | ((try simp only [wS]); omega) | rfl) | with_reducible rfl | (refine And.left (b := True) ⟨?_, True.intro⟩; assumption) ))))); (any_goals (apply okIx_mk; rfl)))); (all_goals (try (first | omega | (simp only; omega)))))
    | (apply next_sub (Subtype.mk (y + 1) (by first | omega | (simp only; omega))); (focus (rw [hn (by omega)]; apply le_mk [some 0, some 1, some 2, some 3]; (focus (iterate 2 (all_goals (repeat' (first | exact trivial | (intro Q h; refine h ?_; clear h Q) | refine And.intro ?_ ?_ | exact sub_sl rfl rfl rfl | exact sub_refl_val _ _ | exact row_same rfl rfl rfl | ((first | refine sub_int ?_ ); first | with_reducible rfl | omega | ((try simp only [wS]); omega) | rfl) ))))); (any_goals (apply okIx_mk; rfl)))); (all_goals (try (first | (simp only; omega)))))
    ))
    have hyy : l.length = y := by omega
    subst hyy
    rw [← hCf] at l1
    generalize rcN X D l l.length = p at *
    by_cases hcb : chgL (byN l n r) = false
    · obtain ⟨e1, e2⟩ := hno r hcb
      rw [e1, e2]
      have hl0 := hla.2.2 hcb
      (repeat' (first
    | (intro Q h; refine h ?_; clear h Q)
    | (refine bcase_mk (fun hb => ?_) (fun hb => ?_) <;> (try simp only [nS, nT, eq_self, reduceCtorEq] at hb) <;> (try (exfalso; (omega); done)))
    | refine seq_go ?_
    | (apply ret_mk [some 0, none]; (focus (iterate 2 (all_goals (repeat' (first | exact subL_nil | exact trivial | (intro Q h; refine h ?_; clear h Q) | refine And.intro ?_ ?_ | refine subL_cons ?_ ?_ | refine sub_tup ?_ | exact sub_sbl rfl | exact row_same rfl rfl rfl | exact sub_nil rfl | ((first | refine virt_mk ?_ ); first | with_reducible rfl | omega | ((try simp only [wS]); omega) | rfl) ))))); (any_goals (apply okIx_mk; rfl)))
    ))
    · have hl0 : ¬ p.2.2 < 0 := fun h => hcb (hla.2.1 h)
      have hch' : ∀ y, y < r + 1 → chgL (byN l n y) = true := fun y hy => by
        by_cases e : y = r
        · rw [e]; simpa using hcb
        · exact hch y (by omega)
      (repeat' (first
    | (intro Q h; refine h ?_; clear h Q)
    | (refine bcase_mk (fun hb => ?_) (fun hb => ?_) <;> (try simp only [nS, nT, eq_self, reduceCtorEq] at hb) <;> (try (exfalso; (omega); done)))
    | refine seq_go ?_
    | (apply next_sub (Subtype.mk (r + 1) ⟨by omega, hch'⟩); (focus (rw [hB1, hB2, hB3]; apply le_mk [some 0, some 3, some 2]; (focus (iterate 2 (all_goals (repeat' (first | exact trivial | (intro Q h; refine h ?_; clear h Q) | refine And.intro ?_ ?_ | exact sub_sl rfl rfl rfl | exact sub_refl_val _ _ | exact row_same rfl rfl rfl | ((first | refine sub_int ?_ ); first | with_reducible rfl | omega | ((try simp only [wS]); omega) | rfl) ))))); (any_goals (apply okIx_mk; rfl)))); (all_goals (try (first | (simp only; omega)))))
    ))
  have hrr : r = n + 1 := by omega
  subst hrr
  have hcy : cyc l n = true := hch (n - 1) (by omega)
  have hla := laR_ok hok n
  have hchn := hch n (by omega)
  have hla0 : 0 ≤ laR l n n := by
    by_cases h : laR l n n < 0
    · have := hla.2.1 h
      rw [hchn] at this; cases this
    · omega
  have hlpos := laR_ne hla0
  rw [if_pos hcy] at hA
  rw [hcy] at hO
  rw [hA, hO]
  have hit := itC_rg hok hDl hDc hlpos (v := laR l n n) ⟨hla0, hla.1.2⟩
  have hv : itC l (csR l n (n + 1)) (laR l n n) n = rcV l n := rfl
  have hrB : rcB l n = bkL l (csR l n (n + 1)) (rcV l n) (bkX l (csR l n (n + 1)) (rcV l n) n 0) := rfl
  have hit2 := itC_rg hok hDl hDc hlpos (v := rcV l n) (hit n).1
  have hs1 : ∀ k, itC l (csR l n (n + 1)) (laR l n n) (k + 1) = (l.getD ((csR l n (n + 1)).getD (itC l (csR l n (n + 1)) (laR l n n) k).toNat 0).toNat cn0).a := fun _ => rfl
  have hi0 : itC l (csR l n (n + 1)) (laR l n n) 0 = laR l n n := rfl
  rw [show lbR l n (n + 1) = laR l n n from rfl]
  rw [hrB]
  clear hch hA hno hrB
  generalize laR l n n = la at *
  generalize rcV l n = v at *
  generalize lst l n (n + 1) = X at *
  generalize csR l n (n + 1) = D at *
  (repeat' (first
    | (intro Q h; refine h ?_; clear h Q)
    | (refine bcase_mk (fun hb => ?_) (fun hb => ?_) <;> (try simp only [nS, nT, eq_self, reduceCtorEq] at hb) <;> (try (exfalso; (omega); done)))
    | refine seq_go ?_
    ))
  refine loop_inv (σ := Nat) (fun x => x ≤ n) (fun x => ⟨[(0, .val (.int .i64 n)), (1, aN l cap), (7, .sl 1 1 0 n none), (8, .val (.int .i64 (itC l D la x))), (13, .val (.int .i64 x))], [cB false l, iB true D]⟩) (fun x => n - x) (0) ?_ ?_ ?_
  · omega
  · rw [hi0]
    (apply le_mk [some 0, some 2]; (focus (iterate 2 (all_goals (repeat' (first | exact trivial | (intro Q h; refine h ?_; clear h Q) | refine And.intro ?_ ?_ | exact sub_sl rfl rfl rfl | exact sub_refl_val _ _ | exact row_same rfl rfl rfl ))))); (any_goals (apply okIx_mk; rfl)))
  rintro x hx
  obtain ⟨⟨i0, i1⟩, i2, i3⟩ := hit x
  have hs := hs1 x
  by_cases hxn : x < n
  · generalize itC l D la x = u at *
    have hs' : itC l D la (x + 1) = (l.getD (0 + (D.getD (0 + u.toNat) 0).toNat) cn0).a := by rw [Nat.zero_add, Nat.zero_add]; exact hs
    rw [← Nat.zero_add u.toNat] at i2 i3
    have i4 : D.getD (0 + u.toNat) 0 < l.length := by omega
    (repeat' (first
    | (intro Q h; refine h ?_; clear h Q)
    | (refine bcase_mk (fun hb => ?_) (fun hb => ?_) <;> (try simp only [nS, nT, eq_self, reduceCtorEq] at hb) <;> (try (exfalso; (omega); done)))
    | refine seq_go ?_
    | refine And.intro (by first | omega | ((try simp only [wS]); omega) | rfl | decide) ?_
    | (apply next_sub (Subtype.mk (x + 1) (by first | omega | (simp only; omega))); (focus (rw [hs']; apply le_mk [some 0, some 1]; (focus (iterate 2 (all_goals (repeat' (first | exact trivial | (intro Q h; refine h ?_; clear h Q) | refine And.intro ?_ ?_ | exact sub_sl rfl rfl rfl | exact sub_refl_val _ _ | exact row_same rfl rfl rfl | ((first | refine sub_int ?_ ); first | with_reducible rfl | omega | ((try simp only [wS]); omega) | rfl) ))))); (any_goals (apply okIx_mk; rfl)))); (all_goals (try (first | (simp only; omega)))))
    ))
  have hxx : n = x := by omega
  subst hxx
  have hw1 : IntKind.i64.wrap ((n : Int) + 1) = n + 1 := cwrap (by omega) (by omega)
  rw [hv]
  clear hs1 hit hi0 i0 i1 i2 i3 hs hv
  have hv2 := hit2 0
  have hb0 : bkL l D v 0 = [D.getD v.toNat 0] := rfl
  have ht1 : itC l D v (0 + 1) = (l.getD (D.getD v.toNat 0).toNat cn0).a := rfl
  have hts : ∀ k, itC l D v (k + 1) = (l.getD (D.getD (itC l D v k).toNat 0).toNat cn0).a := fun _ => rfl
  have hbs := bkL_succ l D v
  have hbl := bkL_len l D v
  obtain ⟨⟨j0, j1⟩, j2, j3⟩ := hv2
  rw [show itC l D v 0 = v from rfl] at j0 j1 j2 j3
  have ht1' : itC l D v (0 + 1) = (l.getD (0 + (D.getD (0 + v.toNat) 0).toNat) cn0).a := by rw [ht1, Nat.zero_add, Nat.zero_add]
  have hb0' : bkL l D v 0 = [D.getD (0 + v.toNat) 0] := by rw [Nat.zero_add]; exact hb0
  rw [← Nat.zero_add v.toNat] at j2 j3
  have j4 : D.getD (0 + v.toNat) 0 < l.length := by omega
  (repeat' (first
    | (intro Q h; refine h ?_; clear h Q)
    | (refine bcase_mk (fun hb => ?_) (fun hb => ?_) <;> (try simp only [nS, nT, eq_self, reduceCtorEq] at hb) <;> (try (exfalso; (omega); done)))
    | refine seq_go ?_
    | refine And.intro (by first | omega | ((try simp only [wS]); omega) | rfl | decide) ?_
    ))
  refine loop_inv (σ := Nat) (fun x => x ≤ n ∧ bkX l D v (n - x) x = bkX l D v n 0) (fun x => ⟨[(0, .val (.int .i64 n)), (1, aN l cap), (7, .sl 1 1 0 n none), (8, .val (.int .i64 v)), (14, .sl 2 1 0 (x + 1) (capB x)), (15, .val (.int .i64 (itC l D v (x + 1))))], [cB false l, iB true D, iB true (bkL l D v x)]⟩) (fun x => n - x) (0) ?_ ?_ ?_
  · exact ⟨by omega, rfl⟩
  · rw [hb0', ht1']
    (apply le_mk [some 0, some 1, some _]; (focus (iterate 2 (all_goals (repeat' (first | exact trivial | (intro Q h; refine h ?_; clear h Q) | refine And.intro ?_ ?_ | exact sub_sl rfl rfl rfl | exact sub_refl_val _ _ | exact row_same rfl rfl rfl | refine cells_succ ?_ ?_ | exact cell0 | (apply row_lit rfl; (focus (refine cells_succ ?_ ?_))) ))))); (any_goals (apply okIx_mk; rfl)))
  rintro k ⟨hk, hkX⟩
  obtain ⟨⟨i0, i1⟩, i2, i3⟩ := hit2 (k + 1)
  have hLk := hbl k
  have happ : bkL l D v (k + 1) = bkL l D v k ++ [D.getD (0 + (itC l D v (k + 1)).toNat) 0] := by rw [Nat.zero_add]; exact hbs k
  have hst : itC l D v (k + 1 + 1) = (l.getD (0 + (D.getD (0 + (itC l D v (k + 1)).toNat) 0).toNat) cn0).a := by rw [Nat.zero_add, Nat.zero_add]; exact hts (k + 1)
  have hXs : k < n → bkX l D v (n - k) k = if itC l D v (k + 1) = v then k else bkX l D v (n - (k + 1)) (k + 1) := fun h => by
    rw [show n - k = (n - (k + 1)) + 1 by omega]; rfl
  have hXn : k = n → bkX l D v (n - k) k = k := fun h => by rw [h, Nat.sub_self]; rfl
  rw [← Nat.zero_add (itC l D v (k + 1)).toNat] at i2 i3
  have i4 : D.getD (0 + (itC l D v (k + 1)).toNat) 0 < l.length := by omega
  by_cases hgo : itC l D v (k + 1) ≠ v ∧ k < n
  · rw [hXs hgo.2, if_neg hgo.1] at hkX
    have hgo1 := hgo.1
    have hgo2 := hgo.2
    generalize itC l D v (k + 1) = u at *
    rcases k with _ | k
    · generalize bkL l D v 0 = B at *
      (repeat' (first
    | (intro Q h; refine h ?_; clear h Q)
    | (refine bcase_mk (fun hb => ?_) (fun hb => ?_) <;> (try simp only [nS, nT, eq_self, reduceCtorEq] at hb) <;> (try (exfalso; (omega); done)))
    | refine seq_go ?_
    | refine And.intro (by first | omega | ((try simp only [wS]); omega) | rfl | decide) ?_
    | (apply next_sub (Subtype.mk (0 + 1) ⟨by omega, hkX⟩); (focus (rw [happ, hst]; apply le_mk [some 0, some 1, some _]; (focus (iterate 2 (all_goals (repeat' (first | exact trivial | (intro Q h; refine h ?_; clear h Q) | refine And.intro ?_ ?_ | exact sub_sl rfl rfl rfl | exact sub_refl_val _ _ | exact row_same rfl rfl rfl ))))); (any_goals (apply okIx_mk; rfl)))); (all_goals (try (first | (simp only; omega)))))
    ))
      all_goals exact row_is (L' := (B.drop 0).take (0 + 1) ++ [D.getD (0 + u.toNat) 0]) (isrow_app rfl (isrow_shift (by omega)) (isrow_one (fun j hj => by have hj : j < 1 := hj; obtain rfl : j = 0 := (by omega); rfl))) (by rw [List.drop_zero, List.take_of_length_le (by omega)]) rfl
    · generalize bkL l D v (k + 1) = B at *
      (repeat' (first
    | (intro Q h; refine h ?_; clear h Q)
    | (refine bcase_mk (fun hb => ?_) (fun hb => ?_) <;> (try simp only [nS, nT, eq_self, reduceCtorEq] at hb) <;> (try (exfalso; (omega); done)))
    | refine seq_go ?_
    | refine And.intro (by first | omega | ((try simp only [wS]); omega) | rfl | decide) ?_
    | (apply next_sub (Subtype.mk (k + 1 + 1) ⟨by omega, hkX⟩); (focus (rw [happ, hst]; apply le_mk [some 0, some 1, some _]; (focus (iterate 2 (all_goals (repeat' (first | exact trivial | (intro Q h; refine h ?_; clear h Q) | refine And.intro ?_ ?_ | exact sub_sl rfl rfl rfl | exact sub_refl_val _ _ | exact row_same rfl rfl rfl | ((first | show (_ : Nat) = _); first | with_reducible rfl | omega | ((try simp only [wS]); omega) | rfl) | apply row_app1 | refine cells_succ ?_ ?_ | exact cell0 | with_reducible rfl ))))); (any_goals (apply okIx_mk; rfl)))); (all_goals (try (first | (simp only; omega)))))
    ))
  · have hX : bkX l D v n 0 = k := by
      rw [← hkX]
      by_cases h : k < n
      · rw [hXs h, if_pos (by by_cases e : itC l D v (k + 1) = v; exact e; exact absurd ⟨e, h⟩ hgo)]
      · exact hXn (by omega)
    rw [hX]
    clear hXs hXn hkX hX
    generalize itC l D v (k + 1) = u at *
    generalize bkL l D v k = B at *
    have hBm : B.length ≤ 161 := by omega
    by_cases hu : u = v
    · (repeat' (first
    | (intro Q h; refine h ?_; clear h Q)
    | (refine bcase_mk (fun hb => ?_) (fun hb => ?_) <;> (try simp only [nS, nT, eq_self, reduceCtorEq] at hb) <;> (try (exfalso; (omega); done)))
    | refine seq_go ?_
    ))
      refine loop_inv (σ := Nat) (fun x => x ≤ B.length) (fun x => ⟨[(14, .sl 1 1 0 B.length (capB k)), (16, .sl 2 1 0 (B.length - x) none), (17, .val (.int .i64 ((x : Int) - 1)))], [cB false l, iB true B, iB true (B.drop x).reverse]⟩) (fun x => x) (B.length) ?_ ?_ ?_
      · omega
      · rw [List.drop_length]
        (apply le_mk [some 0, some 2, none]; (focus (iterate 2 (all_goals (repeat' (first | exact trivial | (intro Q h; refine h ?_; clear h Q) | refine And.intro ?_ ?_ | exact row_same rfl rfl rfl | ((first | refine sub_int ?_ | refine sub_sl rfl rfl ?_ | refine sub_nil ?_ | refine virt_mk ?_ ); first | with_reducible rfl | omega | ((try simp only [wS]); omega) | rfl) ))))); (any_goals (apply okIx_mk; rfl)))
      rintro z hz
      have hdl : (B.drop z).reverse.length = B.length - z := by rw [List.length_reverse, List.length_drop]
      by_cases hz0 : 0 < z
      · obtain ⟨j, rfl⟩ : ∃ j, z = j + 1 := ⟨z - 1, by omega⟩
        rw [show ((j + 1 : Nat) : Int) - 1 = j by omega]
        obtain ⟨_, e2⟩ := take_split (S := B) (k := j) (by omega)
        have hs' : (B.drop j).reverse = (B.drop (j + 1)).reverse ++ [B.getD (0 + Int.toNat (j : Int)) 0] := by rw [e2, List.reverse_cons, show 0 + Int.toNat (j : Int) = j by omega]
        generalize (B.drop (j + 1)).reverse = E at *
        (repeat' (first
    | (intro Q h; refine h ?_; clear h Q)
    | (refine bcase_mk (fun hb => ?_) (fun hb => ?_) <;> (try simp only [nS, nT, eq_self, reduceCtorEq] at hb) <;> (try (exfalso; (omega); done)))
    | refine seq_go ?_
    | refine And.intro (by first | omega | ((try simp only [wS]); omega) | rfl | decide) ?_
    | (apply next_sub (Subtype.mk j (by first | omega | (simp only; omega))); (focus (rw [hs']; apply le_mk [some 0, some 1, some _]; (focus (iterate 2 (all_goals (repeat' (first | exact trivial | (intro Q h; refine h ?_; clear h Q) | refine And.intro ?_ ?_ | exact sub_sl rfl rfl rfl | exact sub_refl_val _ _ | exact row_same rfl rfl rfl | ((first | refine sub_int ?_ | refine sub_sl rfl rfl ?_ | show (_ : Nat) = _); first | with_reducible rfl | omega | ((try simp only [wS]); omega) | rfl) | apply row_app1 | refine cells_succ ?_ ?_ | exact cell0 | with_reducible rfl ))))); (any_goals (apply okIx_mk; rfl)))); (all_goals (try (first | (simp only; omega)))))
    ))
        all_goals first
          | (simp; omega)
          | fail
      · obtain rfl : z = 0 := by omega
        (repeat' (first
    | (intro Q h; refine h ?_; clear h Q)
    | (refine bcase_mk (fun hb => ?_) (fun hb => ?_) <;> (try simp only [nS, nT, eq_self, reduceCtorEq] at hb) <;> (try (exfalso; (omega); done)))
    | refine seq_go ?_
    | (apply ret_mk [some 0, some 2]; (focus (iterate 2 (all_goals (repeat' (first | exact subL_nil | exact trivial | (intro Q h; refine h ?_; clear h Q) | refine And.intro ?_ ?_ | refine subL_cons ?_ ?_ | refine sub_tup ?_ | exact sub_sbl rfl | exact row_same rfl rfl rfl | refine sub_sl rfl rfl ?_ ))))); (any_goals (apply okIx_mk; rfl)))
    ))
        all_goals first
          | (simp; done)
          | fail
    · have hkn : n = k := by
        by_cases h : k < n
        · exact absurd ⟨hu, h⟩ hgo
        · omega
      clear hgo
      (repeat' (first
    | (intro Q h; refine h ?_; clear h Q)
    | (refine bcase_mk (fun hb => ?_) (fun hb => ?_) <;> (try simp only [nS, nT, eq_self, reduceCtorEq] at hb) <;> (try (exfalso; (omega); done)))
    | refine seq_go ?_
    ))
      refine loop_inv (σ := Nat) (fun x => x ≤ B.length) (fun x => ⟨[(14, .sl 1 1 0 B.length (capB k)), (16, .sl 2 1 0 (B.length - x) none), (17, .val (.int .i64 ((x : Int) - 1)))], [cB false l, iB true B, iB true (B.drop x).reverse]⟩) (fun x => x) (B.length) ?_ ?_ ?_
      · omega
      · rw [List.drop_length]
        (apply le_mk [some 0, some 2, none]; (focus (iterate 2 (all_goals (repeat' (first | exact trivial | (intro Q h; refine h ?_; clear h Q) | refine And.intro ?_ ?_ | exact row_same rfl rfl rfl | ((first | refine sub_int ?_ | refine sub_sl rfl rfl ?_ | refine sub_nil ?_ | refine virt_mk ?_ ); first | with_reducible rfl | omega | ((try simp only [wS]); omega) | rfl) ))))); (any_goals (apply okIx_mk; rfl)))
      rintro z hz
      have hdl : (B.drop z).reverse.length = B.length - z := by rw [List.length_reverse, List.length_drop]
      by_cases hz0 : 0 < z
      · obtain ⟨j, rfl⟩ : ∃ j, z = j + 1 := ⟨z - 1, by omega⟩
        rw [show ((j + 1 : Nat) : Int) - 1 = j by omega]
        obtain ⟨_, e2⟩ := take_split (S := B) (k := j) (by omega)
        have hs' : (B.drop j).reverse = (B.drop (j + 1)).reverse ++ [B.getD (0 + Int.toNat (j : Int)) 0] := by rw [e2, List.reverse_cons, show 0 + Int.toNat (j : Int) = j by omega]
        generalize (B.drop (j + 1)).reverse = E at *
        (repeat' (first
    | (intro Q h; refine h ?_; clear h Q)
    | (refine bcase_mk (fun hb => ?_) (fun hb => ?_) <;> (try simp only [nS, nT, eq_self, reduceCtorEq] at hb) <;> (try (exfalso; (omega); done)))
    | refine seq_go ?_
    | refine And.intro (by first | omega | ((try simp only [wS]); omega) | rfl | decide) ?_
    | (apply next_sub (Subtype.mk j (by first | omega | (simp only; omega))); (focus (rw [hs']; apply le_mk [some 0, some 1, some _]; (focus (iterate 2 (all_goals (repeat' (first | exact trivial | (intro Q h; refine h ?_; clear h Q) | refine And.intro ?_ ?_ | exact sub_sl rfl rfl rfl | exact sub_refl_val _ _ | exact row_same rfl rfl rfl | ((first | refine sub_int ?_ | refine sub_sl rfl rfl ?_ | show (_ : Nat) = _); first | with_reducible rfl | omega | ((try simp only [wS]); omega) | rfl) | apply row_app1 | refine cells_succ ?_ ?_ | exact cell0 | with_reducible rfl ))))); (any_goals (apply okIx_mk; rfl)))); (all_goals (try (first | (simp only; omega)))))
    ))
        all_goals first
          | (simp; omega)
          | fail
      · obtain rfl : z = 0 := by omega
        (repeat' (first
    | (intro Q h; refine h ?_; clear h Q)
    | (refine bcase_mk (fun hb => ?_) (fun hb => ?_) <;> (try simp only [nS, nT, eq_self, reduceCtorEq] at hb) <;> (try (exfalso; (omega); done)))
    | refine seq_go ?_
    | (apply ret_mk [some 0, some 2]; (focus (iterate 2 (all_goals (repeat' (first | exact subL_nil | exact trivial | (intro Q h; refine h ?_; clear h Q) | refine And.intro ?_ ?_ | refine subL_cons ?_ ?_ | refine sub_tup ?_ | exact sub_sbl rfl | exact row_same rfl rfl rfl | refine sub_sl rfl rfl ?_ ))))); (any_goals (apply okIx_mk; rfl)))
    ))
        all_goals first
          | (simp; done)
          | fail
end Go.Vx.L53

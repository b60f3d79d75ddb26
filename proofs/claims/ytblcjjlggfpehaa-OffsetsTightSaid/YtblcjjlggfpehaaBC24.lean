/- Lemmas of a small executor for the model, and contracts of functions, used for the law that this claim proves. No condition. -/
import Derived.Test.YtblcjjlggfpehaaBC23
set_option linter.unusedSimpArgs false
set_option linter.unusedVariables false
set_option maxRecDepth 100000
namespace Go.Vx.L53
open Go Go.Proofs
/-- The reference's round that lessens nothing. -/
def slvI (l : List Cn) (n : Nat) : Option Nat := (List.range (n + 1)).find? fun r => !chgL (byN l n r)
theorem slvI_some {l : List Cn} {n r : Nat} (hr : r ≤ n) (h : chgL (byN l n r) = false) (h1 : ∀ y, y < r → chgL (byN l n y) = true) : slvI l n = some r := by
  unfold slvI
  rw [List.find?_range_eq_some]
  exact ⟨by rw [h]; rfl, by simp; omega, fun j hj => by rw [h1 j hj]; rfl⟩
theorem slvI_none {l : List Cn} {n : Nat} (h1 : ∀ y, y < n + 1 → chgL (byN l n y) = true) : slvI l n = none := by
  unfold slvI
  rw [List.find?_range_eq_none]
  intro i hi
  rw [h1 i hi]; rfl
def rsvE (n : Int) (l : List Cn) : Int := if cchk n l ≠ 0 then cchk n l else if (slvI l n.toNat).isSome then 0 else 20
def rsvA (n : Int) (l : List Cn) : List Int := if rsvE n l = 0 then lst l n.toNat ((slvI l n.toNat).getD 0) else []
theorem chgL_set {D : List Int} {b : Nat} {v : Int} (hb : b < D.length) (hv : 0 ≤ v) : chgL (D.set b v) = true := by
  unfold chgL
  rw [List.any_eq_true]
  exact ⟨v, List.mem_iff_getElem.2 ⟨b, by simpa using hb, by simp⟩, by simpa using hv⟩
theorem chgL_rep (n : Nat) : chgL (List.replicate n (-1)) = false := by
  unfold chgL
  rw [List.any_eq_false]
  intro v hv
  rw [List.eq_of_mem_replicate hv]; decide
set_option maxHeartbeats 2000000 in
theorem rsolve_ok (n : Int) (l : List Cn) (cap : Option Nat) (hl : l.length ≤ maxLen) :
    Runs Try.prog 57 [.val (.int .i64 n), aN l cap] [cB false l] (Det (.tup [.sl 1 1 0 (rsvA n l).length none, .val (.int .i64 (rsvE n l))]) [cB false l, iB true (rsvA n l)]) := by
  have hck := rcchk_ok n l cap hl
  by_cases h0 : cchk n l = 0
  rotate_left
  · have hE : rsvE n l = cchk n l := by unfold rsvE; rw [if_pos h0]
    have hA : rsvA n l = [] := by unfold rsvA; rw [hE, if_neg h0]
    rw [hA, hE]
    generalize cchk n l = w at *
    refine Runs.mk tabOK Try.call57 Try.func57 rfl Try.ntmps57 Try.results57 rfl ?_
    (repeat' (first
    | (intro Q h; refine h ?_; clear h Q)
    | (refine bcase_mk (fun hb => ?_) (fun hb => ?_) <;> (try simp only [nS, nT, eq_self, reduceCtorEq] at hb) <;> (try (exfalso; (omega); done)))
    | refine seq_go ?_
    | ((first | apply call1 (hck) ); (focus (iterate 2 (all_goals (repeat' (first | exact subL_nil | exact trivial | (intro Q h; refine h ?_; clear h Q) | refine And.intro ?_ ?_ | refine subL_cons ?_ ?_ | exact sub_sl rfl rfl rfl | exact sub_refl_val _ _ | exact row_same rfl rfl rfl ))))); (try (any_goals fail)))
    | (apply ret_mk [some 0, none]; (focus (iterate 2 (all_goals (repeat' (first | exact subL_nil | exact trivial | (intro Q h; refine h ?_; clear h Q) | refine And.intro ?_ ?_ | refine subL_cons ?_ ?_ | refine sub_tup ?_ | exact sub_refl_val _ _ | exact row_same rfl rfl rfl | exact sub_nil rfl | ((first | refine virt_mk ?_ ); first | with_reducible rfl | omega | ((try simp only [wS]); omega) | rfl) ))))); (any_goals (apply okIx_mk; rfl)))
    ))
  obtain ⟨n, rfl, hm, hl4, hok⟩ := cchk_zero h0
  have hE : rsvE n l = if (slvI l n).isSome then 0 else 20 := by unfold rsvE; rw [if_neg (not_not_intro h0), Int.toNat_natCast]
  have hA : rsvA n l = if rsvE n l = 0 then lst l n ((slvI l n).getD 0) else [] := by unfold rsvA; rw [Int.toNat_natCast]
  rw [h0] at hck
  refine Runs.mk tabOK Try.call57 Try.func57 rfl Try.ntmps57 Try.results57 rfl ?_
  (repeat' (first
    | (intro Q h; refine h ?_; clear h Q)
    | (refine bcase_mk (fun hb => ?_) (fun hb => ?_) <;> (try simp only [nS, nT, eq_self, reduceCtorEq] at hb) <;> (try (exfalso; (omega); done)))
    | refine seq_go ?_
    | refine And.intro (by first | omega | ((try simp only [wS]); omega) | rfl | decide) ?_
    | ((first | apply call1 (hck) ); (focus (iterate 2 (all_goals (repeat' (first | exact subL_nil | exact trivial | (intro Q h; refine h ?_; clear h Q) | refine And.intro ?_ ?_ | refine subL_cons ?_ ?_ | exact sub_sl rfl rfl rfl | exact sub_refl_val _ _ | exact row_same rfl rfl rfl ))))); (try (any_goals fail)))
    ))
  refine loop_inv (σ := Nat) (fun x => x ≤ n + 1 ∧ ∀ y, y < x → chgL (byN l n y) = true) (fun x => ⟨[(0, .val (.int .i64 n)), (1, aN l cap), (7, .sl 1 1 0 n none), (8, .val (.int .i64 x))], [cB false l, iB true (lst l n x)]⟩) (fun x => n + 1 - x) (0) ?_ ?_ ?_
  · exact ⟨by omega, fun y h => by omega⟩
  · (apply le_mk [some 0, some 1]; (focus (iterate 2 (all_goals (repeat' (first | exact trivial | (intro Q h; refine h ?_; clear h Q) | refine And.intro ?_ ?_ | exact sub_sl rfl rfl rfl | exact sub_refl_val _ _ | exact row_same rfl rfl rfl ))))); (any_goals (apply okIx_mk; rfl)))
    all_goals (refine row_rep (x := 0) (subL_cons (sub_refl_val _ _) subL_nil) ?_ ?_ <;> simp [lst])
  rintro r ⟨hr, hch⟩
  by_cases hrn : r < n + 1
  rotate_left
  · have hrr : r = n + 1 := by omega
    subst hrr
    have hn := slvI_none hch
    rw [hn] at hE
    have hE : rsvE n l = 20 := hE
    rw [hE, if_neg (by decide)] at hA
    rw [hA, hE]
    (repeat' (first
    | (intro Q h; refine h ?_; clear h Q)
    | (refine bcase_mk (fun hb => ?_) (fun hb => ?_) <;> (try simp only [nS, nT, eq_self, reduceCtorEq] at hb) <;> (try (exfalso; (omega); done)))
    | refine seq_go ?_
    | (apply ret_mk [some 0, none]; (focus (iterate 2 (all_goals (repeat' (first | exact subL_nil | exact trivial | (intro Q h; refine h ?_; clear h Q) | refine And.intro ?_ ?_ | refine subL_cons ?_ ?_ | refine sub_tup ?_ | exact sub_refl_val _ _ | exact row_same rfl rfl rfl | exact sub_nil rfl | ((first | refine virt_mk ?_ ); first | with_reducible rfl | omega | ((try simp only [wS]); omega) | rfl) ))))); (any_goals (apply okIx_mk; rfl)))
    ))
  have hXl : (lst l n r).length = n := lst_len l n _
  have hbd := lst_bnd hok r
  have hR1 := rlN_bnd hbd hok
  have hR3 := rlN_len (lst l n r) l
  have hB : byN l n r = (rlN (lst l n r) l l.length).2 := rfl
  have hB1 : lst l n (r + 1) = (rlN (lst l n r) l l.length).1 := rfl
  rw [hXl] at hR3
  have hr0 : (rlN (lst l n r) l 0) = (lst l n r, List.replicate n (-1)) := by show (lst l n r, List.replicate (lst l n r).length (-1)) = _; rw [hXl]
  have hrS : ∀ x, rlN (lst l n r) l (x + 1) = rl1 (lst l n r) x (l.getD x cn0) (rlN (lst l n r) l x) := fun _ => rfl
  have hfound : chgL (byN l n r) = false → rsvE n l = 0 ∧ rsvA n l = lst l n r := fun h => by
    have := slvI_some (by omega) h hch
    rw [this] at hE hA
    have hE : rsvE n l = 0 := hE
    exact ⟨hE, by rw [hA, if_pos hE]; rfl⟩
  generalize hX : lst l n r = X at *
  (repeat' (first
    | (intro Q h; refine h ?_; clear h Q)
    | (refine bcase_mk (fun hb => ?_) (fun hb => ?_) <;> (try simp only [nS, nT, eq_self, reduceCtorEq] at hb) <;> (try (exfalso; (omega); done)))
    | refine seq_go ?_
    | refine And.intro (by first | omega | ((try simp only [wS]); omega) | rfl | decide) ?_
    ))
  refine loop_inv (σ := Nat) (fun x => x ≤ l.length) (fun x => ⟨[(0, .val (.int .i64 n)), (1, aN l cap), (7, .sl 1 1 0 n none), (8, .val (.int .i64 r)), (9, .sl 2 1 0 n none), (10, .sb (chgL (rlN X l x).2)), (11, .val (.int .i64 x))], [cB false l, iB true X, iB true (rlN X l x).1]⟩) (fun x => l.length - x) (0) ?_ ?_ ?_
  · omega
  · rw [hr0, chgL_rep]
    (apply le_mk [some 0, some 1, some 3]; (focus (iterate 2 (all_goals (repeat' (first | exact trivial | (intro Q h; refine h ?_; clear h Q) | refine And.intro ?_ ?_ | exact sub_sl rfl rfl rfl | exact sub_refl_val _ _ | exact sub_sbl rfl | exact row_same rfl rfl rfl | ((first | refine sub_sl rfl rfl ?_ ); first | with_reducible rfl | omega | ((try simp only [wS]); omega) | rfl) ))))); (any_goals (apply okIx_mk; rfl)))
    all_goals (refine row_is (L' := [] ++ (X.drop 0).take n) (isrow_app rfl isrow_nil (isrow_shift (by omega))) ?_ rfl; rw [List.nil_append, List.drop_zero, List.take_of_length_le (by omega)])
  rintro y hy
  obtain ⟨l1, l2⟩ := hR3 y
  by_cases hyl : y < l.length
  · have hz : 0 + Int.toNat y = y := by omega
    have hc := hok _ (getD_mem l y cn0 hyl)
    have hS := hrS y
    have hb1 := hbd (l.getD y cn0).a.toNat
    have hb2 := hR1 y hy (l.getD y cn0).b.toNat
    generalize rlN X l y = p at *
    rw [← hz, ← Nat.zero_add (l.getD (0 + Int.toNat y) cn0).a.toNat] at hb1
    rw [← hz, ← Nat.zero_add (l.getD (0 + Int.toNat y) cn0).b.toNat] at hb2
    rw [← hz] at hc
    obtain ⟨⟨a0, a1⟩, ⟨b0, b1⟩, w0, w1⟩ := hc
    have hno : ¬ X.getD (0 + (l.getD (0 + Int.toNat y) cn0).a.toNat) 0 + (l.getD (0 + Int.toNat y) cn0).w < p.1.getD (0 + (l.getD (0 + Int.toNat y) cn0).b.toNat) 0 → rlN X l (y + 1) = p := fun h => by
      rw [hz] at h
      rw [Nat.zero_add, Nat.zero_add] at h
      rw [hS]; unfold rl1; rw [if_neg h]
    have hyes : X.getD (0 + (l.getD (0 + Int.toNat y) cn0).a.toNat) 0 + (l.getD (0 + Int.toNat y) cn0).w < p.1.getD (0 + (l.getD (0 + Int.toNat y) cn0).b.toNat) 0 → rlN X l (y + 1) = (p.1.set (0 + (l.getD (0 + Int.toNat y) cn0).b.toNat) (X.getD (0 + (l.getD (0 + Int.toNat y) cn0).a.toNat) 0 + (l.getD (0 + Int.toNat y) cn0).w), p.2.set (0 + (l.getD (0 + Int.toNat y) cn0).b.toNat) (y : Int)) := fun h => by
      rw [hz] at h ⊢
      simp only [Nat.zero_add] at h ⊢
      rw [hS]; unfold rl1; rw [if_pos h]
    have hw : IntKind.i64.wrap (X.getD (0 + (l.getD (0 + Int.toNat y) cn0).a.toNat) 0 + (l.getD (0 + Int.toNat y) cn0).w) = X.getD (0 + (l.getD (0 + Int.toNat y) cn0).a.toNat) 0 + (l.getD (0 + Int.toNat y) cn0).w := cwrap (by omega) (by omega)
    (repeat' (first
    | (intro Q h; refine h ?_; clear h Q)
    | (refine bcase_mk (fun hb => ?_) (fun hb => ?_) <;> (try simp only [nS, nT, eq_self, reduceCtorEq] at hb) <;> (try (exfalso; (omega); done)))
    | refine draw_mk (by decide +kernel) ?_
    | refine seq_go ?_
    | refine And.intro (by first | omega | ((try simp only [wS]); omega) | rfl | decide) ?_
    | (apply next_sub (Subtype.mk (y + 1) (by first | omega | (simp only; omega))); (focus (rw [hyes (by omega)]; apply le_mk [some 0, some 1, some 2]; (focus (iterate 2 (all_goals (repeat' (first | (refine row_setl rfl (subL_cons (sub_int ?_) subL_nil) ?_ rfl rfl rfl) | exact trivial | (intro Q h; refine h ?_; clear h Q) | refine And.intro ?_ ?_ | exact sub_sl rfl rfl rfl | exact sub_refl_val _ _ | exact row_same rfl rfl rfl | ((first | refine sub_int ?_ ); first | with_reducible rfl | omega | ((try simp only [wS]); omega) | rfl) | (refine And.left (b := True) ⟨?_, True.intro⟩; assumption) | refine sub_sbl ?_ ))))); (any_goals (apply okIx_mk; rfl)))); (all_goals (try (first | omega | (simp only; omega)))))
    | (apply next_sub (Subtype.mk (y + 1) (by first | omega | (simp only; omega))); (focus (rw [hno (by omega)]; apply le_mk [some 0, some 1, some 2]; (focus (iterate 2 (all_goals (repeat' (first | exact trivial | (intro Q h; refine h ?_; clear h Q) | refine And.intro ?_ ?_ | exact sub_sl rfl rfl rfl | exact sub_refl_val _ _ | exact sub_sb rfl | exact row_same rfl rfl rfl | ((first | refine sub_int ?_ ); first | with_reducible rfl | omega | ((try simp only [wS]); omega) | rfl) ))))); (any_goals (apply okIx_mk; rfl)))); (all_goals (try (first | (simp only; omega)))))
    ))
    all_goals (exact (chgL_set (by omega) (by omega)).symm)
  have hyy : l.length = y := by omega
  subst hyy
  rw [← hB]
  cases hcb : chgL (byN l n r)
  · obtain ⟨e1, e2⟩ := hfound hcb
    rw [e1, e2]
    (repeat' (first
    | (intro Q h; refine h ?_; clear h Q)
    | (refine bcase_mk (fun hb => ?_) (fun hb => ?_) <;> (try simp only [nS, nT, eq_self, reduceCtorEq] at hb) <;> (try (exfalso; (omega); done)))
    | refine seq_go ?_
    | (apply ret_mk [some 0, some 1]; (focus (iterate 2 (all_goals (repeat' (first | exact subL_nil | exact trivial | (intro Q h; refine h ?_; clear h Q) | refine And.intro ?_ ?_ | refine subL_cons ?_ ?_ | refine sub_tup ?_ | exact sub_refl_val _ _ | exact row_same rfl rfl rfl | ((first | refine sub_sl rfl rfl ?_ ); first | with_reducible rfl | omega | ((try simp only [wS]); omega) | rfl) ))))); (any_goals (apply okIx_mk; rfl)))
    ))
  · have hch' : ∀ y, y < r + 1 → chgL (byN l n y) = true := fun y hy => by
      by_cases e : y = r
      · rw [e]; exact hcb
      · exact hch y (by omega)
    (repeat' (first
    | (intro Q h; refine h ?_; clear h Q)
    | (refine bcase_mk (fun hb => ?_) (fun hb => ?_) <;> (try simp only [nS, nT, eq_self, reduceCtorEq] at hb) <;> (try (exfalso; (omega); done)))
    | refine seq_go ?_
    | (apply next_sub (Subtype.mk (r + 1) ⟨by omega, hch'⟩); (focus (rw [hB1]; apply le_mk [some 0, some 2]; (focus (iterate 2 (all_goals (repeat' (first | exact trivial | (intro Q h; refine h ?_; clear h Q) | refine And.intro ?_ ?_ | exact sub_sl rfl rfl rfl | exact sub_refl_val _ _ | exact row_same rfl rfl rfl | ((first | refine sub_int ?_ ); first | with_reducible rfl | omega | ((try simp only [wS]); omega) | rfl) ))))); (any_goals (apply okIx_mk; rfl)))); (all_goals (try (first | (simp only; omega)))))
    ))
end Go.Vx.L53

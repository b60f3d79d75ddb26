/- Lemmas of a small executor for the model, and contracts of functions, used for the law that this claim proves. No condition. -/
import Derived.Test.YtblcjjlggfpehaaBC24
set_option linter.unusedSimpArgs false
set_option linter.unusedVariables false
set_option maxRecDepth 100000
namespace Go.Vx.L53
open Go Go.Proofs
def rbdA (n : Int) (l : List Cn) : List (List Int) := if rsvE n l = 0 then fw n.toNat l else []
set_option maxHeartbeats 4000000 in
theorem rbounds_ok (n : Int) (l : List Cn) (cap : Option Nat) (hl : l.length ≤ maxLen) :
    Runs Try.prog 38 [.val (.int .i64 n), aN l cap] [cB false l] (Det (.tup [.sl 1 1 0 (rbdA n l).length none, .val (.int .i64 (rsvE n l))]) [cB false l, fA (rbdA n l)]) := by
  have hsv := rsolve_ok n l cap hl
  by_cases hE : rsvE n l = 0
  rotate_left
  · have hA : rbdA n l = [] := by unfold rbdA; rw [if_neg hE]
    rw [hA]
    generalize rsvE n l = w at *
    generalize rsvA n l = W at *
    refine Runs.mk tabOK Try.call38 Try.func38 rfl Try.ntmps38 Try.results38 rfl ?_
    (repeat' (first
    | (intro Q h; refine h ?_; clear h Q)
    | (refine bcase_mk (fun hb => ?_) (fun hb => ?_) <;> (try simp only [nS, nT, eq_self, reduceCtorEq] at hb) <;> (try (exfalso; (omega); done)))
    | refine seq_go ?_
    | ((first | apply call1 (hsv) ); (focus (iterate 2 (all_goals (repeat' (first | exact subL_nil | exact trivial | (intro Q h; refine h ?_; clear h Q) | refine And.intro ?_ ?_ | refine subL_cons ?_ ?_ | exact sub_sl rfl rfl rfl | exact sub_refl_val _ _ | exact row_same rfl rfl rfl ))))); (try (any_goals fail)))
    | (apply ret_mk [some 0, none]; (focus (iterate 2 (all_goals (repeat' (first | exact fam_virt rfl | exact subL_nil | exact trivial | (intro Q h; refine h ?_; clear h Q) | refine And.intro ?_ ?_ | refine subL_cons ?_ ?_ | refine sub_tup ?_ | exact sub_refl_val _ _ | exact row_same rfl rfl rfl | exact sub_nil rfl ))))); (any_goals (apply okIx_mk; rfl)))
    ))
  have h0 : cchk n l = 0 := by
    unfold rsvE at hE
    split at hE
    · rename_i h; exact absurd hE h
    · rename_i h; exact Decidable.not_not.1 h
  obtain ⟨n, rfl, hn, hl4, hok⟩ := cchk_zero h0
  have hA : rbdA n l = fw n l := by unfold rbdA; rw [if_pos hE, Int.toNat_natCast]
  have hFl := (fw_sq hok).len
  rw [hA, hE, hFl]
  rw [hE] at hsv
  generalize rsvA n l = W at *
  refine Runs.mk tabOK Try.call38 Try.func38 rfl Try.ntmps38 Try.results38 rfl ?_
  (repeat' (first
    | (intro Q h; refine h ?_; clear h Q)
    | (refine bcase_mk (fun hb => ?_) (fun hb => ?_) <;> (try simp only [nS, nT, eq_self, reduceCtorEq] at hb) <;> (try (exfalso; (omega); done)))
    | refine seq_go ?_
    | refine And.intro (by first | omega | ((try simp only [wS]); omega) | rfl | decide) ?_
    | ((first | apply call1 (hsv) ); (focus (iterate 2 (all_goals (repeat' (first | exact subL_nil | exact trivial | (intro Q h; refine h ?_; clear h Q) | refine And.intro ?_ ?_ | refine subL_cons ?_ ?_ | exact sub_sl rfl rfl rfl | exact sub_refl_val _ _ | exact row_same rfl rfl rfl ))))); (try (any_goals fail)))
    ))
  refine loop_inv (σ := Nat) (fun x => x ≤ n) (fun x => ⟨[(0, .val (.int .i64 n)), (1, aN l cap), (8, .sl 1 1 0 n none), (9, .val (.int .i64 x))], [cB false l, fB n (iniR n x)]⟩) (fun x => n - x) (0) ?_ ?_ ?_
  · omega
  · (apply le_mk [some 0, some 2]; (focus (iterate 2 (all_goals (repeat' (first | exact fam_new rfl rfl | exact trivial | (intro Q h; refine h ?_; clear h Q) | refine And.intro ?_ ?_ | exact sub_sl rfl rfl rfl | exact sub_refl_val _ _ | exact row_same rfl rfl rfl ))))); (any_goals (apply okIx_mk; rfl)))
  rintro i hi
  by_cases hin : i < n
  · have hzi : 0 + Int.toNat i = i := by omega
    have hI := iniR_len n i (by omega)
    have hg := iniR_get n i hin
    have hN := iniR_next n i hin
    generalize iniR n i = R at *
    (repeat' (first
    | (intro Q h; refine h ?_; clear h Q)
    | (refine bcase_mk (fun hb => ?_) (fun hb => ?_) <;> (try simp only [nS, nT, eq_self, reduceCtorEq] at hb) <;> (try (exfalso; (omega); done)))
    | refine seq_go ?_
    | refine And.intro (by first | omega | ((try simp only [wS]); omega) | rfl | decide) ?_
    ))
    refine loop_inv (σ := Nat) (fun x => x ≤ n) (fun x => ⟨[(0, .val (.int .i64 n)), (1, aN l cap), (8, .sl 1 1 0 n none), (9, .val (.int .i64 i)), (10, .val (.int .i64 x))], [cB false l, fB n (R.set i (List.replicate x NN ++ List.replicate (n - x) 0))]⟩) (fun x => n - x) (0) ?_ ?_ ?_
    · omega
    · (apply le_mk [some 0, some 1]; (focus (iterate 2 (all_goals (repeat' (first | exact trivial | (intro Q h; refine h ?_; clear h Q) | refine And.intro ?_ ?_ | exact sub_sl rfl rfl rfl | exact sub_refl_val _ _ | exact row_same rfl rfl rfl ))))); (any_goals (apply okIx_mk; rfl)))
      · exact fam_put (l := List.replicate n 0) (row_rep (x := 0) (subL_cons (sub_refl_val _ _) subL_nil) (by simp) (by simp)) (by simp) (by simp) rfl (by omega)
    rintro x hx
    have hgx := hg (List.replicate x NN ++ List.replicate (n - x) 0)
    have hfl : (List.replicate x NN ++ List.replicate (n - x) 0).length = n := by simp; omega
    by_cases hxn : x < n
    · have hz : 0 + Int.toNat x = x := by omega
      have hf := fill_set n x hxn NN 0
      have hf' : R.set i (List.replicate (x + 1) NN ++ List.replicate (n - (x + 1)) 0) = ms (R.set i (List.replicate x NN ++ List.replicate (n - x) 0)) (0 + Int.toNat i) (0 + Int.toNat x) NN := by
        unfold ms
        rw [hz, hzi, hgx, hf, List.set_set]
      have hl2 : (R.set i (List.replicate x NN ++ List.replicate (n - x) 0)).length = n := by rw [List.length_set, hI]
      have hrl : ((R.set i (List.replicate x NN ++ List.replicate (n - x) 0)).getD (0 + Int.toNat i) []).length = n := by rw [hzi, hgx, hfl]
      have hr1 := famF_fst intC 0 (R.set i (List.replicate x NN ++ List.replicate (n - x) 0)) (0 + Int.toNat i)
      generalize R.set i (List.replicate x NN ++ List.replicate (n - x) 0) = R1 at *
      rw [hrl] at hr1
      (repeat' (first
    | (intro Q h; refine h ?_; clear h Q)
    | (refine bcase_mk (fun hb => ?_) (fun hb => ?_) <;> (try simp only [nS, nT, eq_self, reduceCtorEq] at hb) <;> (try (exfalso; (omega); done)))
    | refine seq_go ?_
    | refine And.intro (by first | omega | ((try simp only [wS]); omega) | rfl | decide) ?_
    | (apply next_sub (Subtype.mk (x + 1) (by first | omega | (simp only; omega))); (focus (rw [hf']; apply le_mk [some 0, some 1]; (focus (iterate 2 (all_goals (repeat' (first | exact trivial | (intro Q h; refine h ?_; clear h Q) | refine And.intro ?_ ?_ | exact sub_sl rfl rfl rfl | exact sub_refl_val _ _ | exact row_same rfl rfl rfl | ((first | refine sub_int ?_ ); first | with_reducible rfl | omega | ((try simp only [wS]); omega) | rfl) ))))); (any_goals (apply okIx_mk; rfl)))); (all_goals (try (first | (simp only; omega)))))
    ))
      all_goals (exact fam_setv rfl rfl (by omega) (by omega) rfl)
    · have hxx : n = x := by omega
      subst hxx
      rw [Nat.sub_self, List.replicate_zero, List.append_nil] at *
      have hN' : iniR n (i + 1) = ms (R.set i (List.replicate n NN)) (0 + Int.toNat i) (0 + Int.toNat i) 0 := by
        unfold ms
        rw [hzi, hgx, List.set_set, ← hN]; rfl
      have hl2 : (R.set i (List.replicate n NN)).length = n := by rw [List.length_set, hI]
      have hrl : ((R.set i (List.replicate n NN)).getD (0 + Int.toNat i) []).length = n := by rw [hzi, hgx, hfl]
      have hr1 := famF_fst intC 0 (R.set i (List.replicate n NN)) (0 + Int.toNat i)
      generalize R.set i (List.replicate n NN) = R1 at *
      rw [hrl] at hr1
      (repeat' (first
    | (intro Q h; refine h ?_; clear h Q)
    | (refine bcase_mk (fun hb => ?_) (fun hb => ?_) <;> (try simp only [nS, nT, eq_self, reduceCtorEq] at hb) <;> (try (exfalso; (omega); done)))
    | refine seq_go ?_
    | refine And.intro (by first | omega | ((try simp only [wS]); omega) | rfl | decide) ?_
    | (apply next_sub (Subtype.mk (i + 1) (by first | omega | (simp only; omega))); (focus (rw [hN']; apply le_mk [some 0, some 1]; (focus (iterate 2 (all_goals (repeat' (first | exact trivial | (intro Q h; refine h ?_; clear h Q) | refine And.intro ?_ ?_ | exact sub_sl rfl rfl rfl | exact sub_refl_val _ _ | exact row_same rfl rfl rfl | ((first | refine sub_int ?_ ); first | with_reducible rfl | omega | ((try simp only [wS]); omega) | rfl) ))))); (any_goals (apply okIx_mk; rfl)))); (all_goals (try (first | (simp only; omega)))))
    ))
      all_goals (exact fam_setv rfl rfl (by omega) (by omega) rfl)
  have hii : n = i := by omega
  subst hii
  have hM0 : iniR n n = mL n l 0 := rfl
  have hMs := mL_sq hok
  have hML : fw n l = fK n (mL n l l.length) n := rfl
  have hMc : ∀ x, mL n l (x + 1) = mC (mL n l x) (l.getD x cn0) := fun _ => rfl
  rw [hM0]
  (repeat' (first
    | (intro Q h; refine h ?_; clear h Q)
    | (refine bcase_mk (fun hb => ?_) (fun hb => ?_) <;> (try simp only [nS, nT, eq_self, reduceCtorEq] at hb) <;> (try (exfalso; (omega); done)))
    | refine seq_go ?_
    ))
  refine loop_inv (σ := Nat) (fun x => x ≤ l.length) (fun x => ⟨[(0, .val (.int .i64 n)), (1, aN l cap), (8, .sl 1 1 0 n none), (11, .val (.int .i64 x))], [cB false l, fB n (mL n l x)]⟩) (fun x => l.length - x) (0) ?_ ?_ ?_
  · omega
  · (apply le_mk [some 0, some 1]; (focus (iterate 2 (all_goals (repeat' (first | exact fam_same rfl rfl rfl | exact trivial | (intro Q h; refine h ?_; clear h Q) | refine And.intro ?_ ?_ | exact sub_sl rfl rfl rfl | exact sub_refl_val _ _ | exact row_same rfl rfl rfl ))))); (any_goals (apply okIx_mk; rfl)))
  rintro x hx
  have hS := hMs x hx
  by_cases hxl : x < l.length
  · have hz : 0 + Int.toNat x = x := by omega
    have hc := hok _ (getD_mem l x cn0 hxl)
    have hT := hMc x
    rw [← hz] at hc
    obtain ⟨⟨a0, a1⟩, ⟨b0, b1⟩, w0, w1⟩ := hc
    have hT1 : (l.getD (0 + Int.toNat x) cn0).w < ((mL n l x).getD (0 + (l.getD (0 + Int.toNat x) cn0).a.toNat) []).getD (0 + (l.getD (0 + Int.toNat x) cn0).b.toNat) 0 → mL n l (x + 1) = ms (mL n l x) (0 + (l.getD (0 + Int.toNat x) cn0).a.toNat) (0 + (l.getD (0 + Int.toNat x) cn0).b.toNat) (l.getD (0 + Int.toNat x) cn0).w := fun h => by
      rw [hT]; rw [hz] at *; simp only [Nat.zero_add] at h ⊢
      unfold mC lsr
      rw [if_pos (show (l.getD x cn0).w < mg (mL n l x) (l.getD x cn0).a.toNat (l.getD x cn0).b.toNat from h)]
    have hT2 : ¬ (l.getD (0 + Int.toNat x) cn0).w < ((mL n l x).getD (0 + (l.getD (0 + Int.toNat x) cn0).a.toNat) []).getD (0 + (l.getD (0 + Int.toNat x) cn0).b.toNat) 0 → mL n l (x + 1) = mL n l x := fun h => by
      rw [hT]; rw [hz] at *; simp only [Nat.zero_add] at h
      unfold mC lsr
      rw [if_neg (show ¬ (l.getD x cn0).w < mg (mL n l x) (l.getD x cn0).a.toNat (l.getD x cn0).b.toNat from h), ms_self]
    have hrl := hS.row (0 + (l.getD (0 + Int.toNat x) cn0).a.toNat) (by omega)
    have hr1 := famF_fst intC 0 (mL n l x) (0 + (l.getD (0 + Int.toNat x) cn0).a.toNat)
    have hlen := hS.len
    rw [hrl] at hr1
    generalize mL n l x = M at *
    (repeat' (first
    | (intro Q h; refine h ?_; clear h Q)
    | (refine bcase_mk (fun hb => ?_) (fun hb => ?_) <;> (try simp only [nS, nT, eq_self, reduceCtorEq] at hb) <;> (try (exfalso; (omega); done)))
    | refine draw_mk (by decide +kernel) ?_
    | refine seq_go ?_
    | refine And.intro (by first | omega | ((try simp only [wS]); omega) | rfl | decide) ?_
    | (apply next_sub (Subtype.mk (x + 1) (by first | omega | (simp only; omega))); (focus (rw [hT1 (by omega)]; apply le_mk [some 0, some 1]; (focus (iterate 2 (all_goals (repeat' (first | exact trivial | (intro Q h; refine h ?_; clear h Q) | refine And.intro ?_ ?_ | exact sub_sl rfl rfl rfl | exact sub_refl_val _ _ | exact row_same rfl rfl rfl | ((first | refine sub_int ?_ ); first | with_reducible rfl | omega | ((try simp only [wS]); omega) | rfl) ))))); (any_goals (apply okIx_mk; rfl)))); (all_goals (try (first | (simp only; omega)))))
    | (apply next_sub (Subtype.mk (x + 1) (by first | omega | (simp only; omega))); (focus (rw [hT2 (by omega)]; apply le_mk [some 0, some 1]; (focus (iterate 2 (all_goals (repeat' (first | exact fam_same rfl rfl rfl | exact trivial | (intro Q h; refine h ?_; clear h Q) | refine And.intro ?_ ?_ | exact sub_sl rfl rfl rfl | exact sub_refl_val _ _ | exact row_same rfl rfl rfl | ((first | refine sub_int ?_ ); first | with_reducible rfl | omega | ((try simp only [wS]); omega) | rfl) ))))); (any_goals (apply okIx_mk; rfl)))); (all_goals (try (first | (simp only; omega)))))
    ))
    all_goals (exact fam_setv rfl rfl (by omega) (by omega) rfl)
  have hxx : l.length = x := by omega
  subst hxx
  rw [hML]
  have hKs := fun k hk => fK_sq hS k hk
  generalize mL n l l.length = M at *
  (repeat' (first
    | (intro Q h; refine h ?_; clear h Q)
    | (refine bcase_mk (fun hb => ?_) (fun hb => ?_) <;> (try simp only [nS, nT, eq_self, reduceCtorEq] at hb) <;> (try (exfalso; (omega); done)))
    | refine seq_go ?_
    ))
  refine loop_inv (σ := Nat) (fun x => x ≤ n) (fun x => ⟨[(0, .val (.int .i64 n)), (8, .sl 1 1 0 n none), (13, .val (.int .i64 x))], [cB false l, fB n (fK n M x)]⟩) (fun x => n - x) (0) ?_ ?_ ?_
  · omega
  · (apply le_mk [some 0, some 1]; (focus (iterate 2 (all_goals (repeat' (first | exact fam_same rfl rfl rfl | exact trivial | (intro Q h; refine h ?_; clear h Q) | refine And.intro ?_ ?_ | exact sub_sl rfl rfl rfl | exact sub_refl_val _ _ | exact row_same rfl rfl rfl ))))); (any_goals (apply okIx_mk; rfl)))
  rintro k hk
  have hA := hKs k hk
  by_cases hkn : k < n
  rotate_left
  · have hkk : n = k := by omega
    subst hkk
    generalize fK n M n = A at *
    (repeat' (first
    | (intro Q h; refine h ?_; clear h Q)
    | (refine bcase_mk (fun hb => ?_) (fun hb => ?_) <;> (try simp only [nS, nT, eq_self, reduceCtorEq] at hb) <;> (try (exfalso; (omega); done)))
    | refine seq_go ?_
    | (apply ret_mk [some 0, some 1]; (focus (iterate 2 (all_goals (repeat' (first | exact subL_nil | exact trivial | (intro Q h; refine h ?_; clear h Q) | refine And.intro ?_ ?_ | refine subL_cons ?_ ?_ | refine sub_tup ?_ | exact sub_sl rfl rfl rfl | exact sub_refl_val _ _ | exact row_same rfl rfl rfl ))))); (any_goals (apply okIx_mk; rfl)))
    ))
    all_goals (exact fam_same rfl hA.len.symm rfl)
  have hzk : 0 + Int.toNat k = k := by omega
  have hKn : fK n M (k + 1) = fI n k (fK n M k) n := rfl
  have hIs := fun i hi => fI_sq (k := k) hA i hi
  generalize fK n M k = A at *
  (repeat' (first
    | (intro Q h; refine h ?_; clear h Q)
    | (refine bcase_mk (fun hb => ?_) (fun hb => ?_) <;> (try simp only [nS, nT, eq_self, reduceCtorEq] at hb) <;> (try (exfalso; (omega); done)))
    | refine seq_go ?_
    ))
  refine loop_inv (σ := Nat) (fun x => x ≤ n) (fun x => ⟨[(0, .val (.int .i64 n)), (8, .sl 1 1 0 n none), (13, .val (.int .i64 k)), (14, .val (.int .i64 x))], [cB false l, fB n (fI n k A x)]⟩) (fun x => n - x) (0) ?_ ?_ ?_
  · omega
  · (apply le_mk [some 0, some 1]; (focus (iterate 2 (all_goals (repeat' (first | exact fam_same rfl rfl rfl | exact trivial | (intro Q h; refine h ?_; clear h Q) | refine And.intro ?_ ?_ | exact sub_sl rfl rfl rfl | exact sub_refl_val _ _ | exact row_same rfl rfl rfl ))))); (any_goals (apply okIx_mk; rfl)))
  rintro i hi
  have hB := hIs i hi
  by_cases hin : i < n
  rotate_left
  · have hii : n = i := by omega
    subst hii
    rw [← hKn]
    (repeat' (first
    | (intro Q h; refine h ?_; clear h Q)
    | (refine bcase_mk (fun hb => ?_) (fun hb => ?_) <;> (try simp only [nS, nT, eq_self, reduceCtorEq] at hb) <;> (try (exfalso; (omega); done)))
    | refine seq_go ?_
    | (apply next_sub (Subtype.mk (k + 1) _); (focus (apply le_mk [some 0, some 1]; (focus (iterate 2 (all_goals (repeat' (first | exact fam_same rfl rfl rfl | exact trivial | (intro Q h; refine h ?_; clear h Q) | refine And.intro ?_ ?_ | exact sub_sl rfl rfl rfl | exact sub_refl_val _ _ | exact row_same rfl rfl rfl | ((first | refine sub_int ?_ ); first | with_reducible rfl | omega | ((try simp only [wS]); omega) | rfl) ))))); (any_goals (apply okIx_mk; rfl)))); (all_goals (try (first | omega | (simp only; omega)))))
    ))
  have hzi : 0 + Int.toNat i = i := by omega
  have hIn : fI n k A (i + 1) = fJ k i (fI n k A i) n := rfl
  have hJs := fun j hj => fJ_sq (k := k) hB hin j hj
  have hBl := hB.len
  generalize fI n k A i = B at *
  (repeat' (first
    | (intro Q h; refine h ?_; clear h Q)
    | (refine bcase_mk (fun hb => ?_) (fun hb => ?_) <;> (try simp only [nS, nT, eq_self, reduceCtorEq] at hb) <;> (try (exfalso; (omega); done)))
    | refine seq_go ?_
    ))
  refine loop_inv (σ := Nat) (fun x => x ≤ n) (fun x => ⟨[(0, .val (.int .i64 n)), (8, .sl 1 1 0 n none), (13, .val (.int .i64 k)), (14, .val (.int .i64 i)), (15, .val (.int .i64 x))], [cB false l, fB n (fJ k i B x)]⟩) (fun x => n - x) (0) ?_ ?_ ?_
  · omega
  · (apply le_mk [some 0, some 1]; (focus (iterate 2 (all_goals (repeat' (first | exact fam_same rfl rfl rfl | exact trivial | (intro Q h; refine h ?_; clear h Q) | refine And.intro ?_ ?_ | exact sub_sl rfl rfl rfl | exact sub_refl_val _ _ | exact row_same rfl rfl rfl ))))); (any_goals (apply okIx_mk; rfl)))
  rintro j hj
  have hC := hJs j hj
  by_cases hjn : j < n
  · have hzj : 0 + Int.toNat j = j := by omega
    have hS : fJ k i B (j + 1) = fS k i (fJ k i B j) j := rfl
    generalize fJ k i B j = C at *
    have hS1 : ¬ (¬ (C.getD (0 + Int.toNat i) []).getD (0 + Int.toNat k) 0 = 4611686018427387904 ∧ ¬ (C.getD (0 + Int.toNat k) []).getD (0 + Int.toNat j) 0 = 4611686018427387904 ∧ IntKind.i64.wrap ((C.getD (0 + Int.toNat i) []).getD (0 + Int.toNat k) 0 + (C.getD (0 + Int.toNat k) []).getD (0 + Int.toNat j) 0) < (C.getD (0 + Int.toNat i) []).getD (0 + Int.toNat j) 0) → fJ k i B (j + 1) = C := fun h => by
      rw [hzj, hzk, hzi] at h
      rw [hS]; unfold fS; exact if_neg h
    have hS2 : (¬ (C.getD (0 + Int.toNat i) []).getD (0 + Int.toNat k) 0 = 4611686018427387904 ∧ ¬ (C.getD (0 + Int.toNat k) []).getD (0 + Int.toNat j) 0 = 4611686018427387904 ∧ IntKind.i64.wrap ((C.getD (0 + Int.toNat i) []).getD (0 + Int.toNat k) 0 + (C.getD (0 + Int.toNat k) []).getD (0 + Int.toNat j) 0) < (C.getD (0 + Int.toNat i) []).getD (0 + Int.toNat j) 0) → fJ k i B (j + 1) = ms C (0 + Int.toNat i) (0 + Int.toNat j) (IntKind.i64.wrap ((C.getD (0 + Int.toNat i) []).getD (0 + Int.toNat k) 0 + (C.getD (0 + Int.toNat k) []).getD (0 + Int.toNat j) 0)) := fun h => by
      rw [hzj, hzk, hzi] at *
      rw [hS]; unfold fS; exact if_pos h
    have hrl := hC.row i hin
    have hrl2 := hC.row k hkn
    have hlen := hC.len
    rw [← hzi] at hrl
    rw [← hzk] at hrl2
    have hr1 := famF_fst intC 0 C (0 + Int.toNat i)
    have hr2 := famF_fst intC 0 C (0 + Int.toNat k)
    rw [hrl] at hr1
    rw [hrl2] at hr2
    (repeat' (first
    | (intro Q h; refine h ?_; clear h Q)
    | (refine bcase_mk (fun hb => ?_) (fun hb => ?_) <;> (try simp only [nS, nT, eq_self, reduceCtorEq] at hb) <;> (try (exfalso; (omega); done)))
    | refine draw_mk (by decide +kernel) ?_
    | refine seq_go ?_
    | refine And.intro (by first | omega | ((try simp only [wS]); omega) | rfl | decide) ?_
    | (apply next_sub (Subtype.mk (j + 1) (by first | omega | (simp only; omega))); (focus (rw [hS2 ⟨by assumption, by assumption, by assumption⟩]; apply le_mk [some 0, some 1]; (focus (iterate 2 (all_goals (repeat' (first | exact trivial | (intro Q h; refine h ?_; clear h Q) | refine And.intro ?_ ?_ | exact sub_sl rfl rfl rfl | exact sub_refl_val _ _ | exact row_same rfl rfl rfl | ((first | refine sub_int ?_ ); first | with_reducible rfl | omega | ((try simp only [wS]); omega) | rfl) ))))); (any_goals (apply okIx_mk; rfl)))); (all_goals (try (first | (simp only; omega)))))
    | (apply next_sub (Subtype.mk (j + 1) (by first | omega | (simp only; omega))); (focus (rw [hS1 (fun ⟨g1, g2, g3⟩ => by omega)]; apply le_mk [some 0, some 1]; (focus (iterate 2 (all_goals (repeat' (first | exact fam_same rfl rfl rfl | exact trivial | (intro Q h; refine h ?_; clear h Q) | refine And.intro ?_ ?_ | exact sub_sl rfl rfl rfl | exact sub_refl_val _ _ | exact row_same rfl rfl rfl | ((first | refine sub_int ?_ ); first | with_reducible rfl | omega | ((try simp only [wS]); omega) | rfl) ))))); (any_goals (apply okIx_mk; rfl)))); (all_goals (try (first | (simp only; omega)))))
    ))
    all_goals (exact fam_setv rfl rfl (by omega) (by omega) rfl)
  · have hjj : n = j := by omega
    subst hjj
    rw [← hIn]
    (repeat' (first
    | (intro Q h; refine h ?_; clear h Q)
    | (refine bcase_mk (fun hb => ?_) (fun hb => ?_) <;> (try simp only [nS, nT, eq_self, reduceCtorEq] at hb) <;> (try (exfalso; (omega); done)))
    | refine seq_go ?_
    | (apply next_sub (Subtype.mk (i + 1) _); (focus (apply le_mk [some 0, some 1]; (focus (iterate 2 (all_goals (repeat' (first | exact fam_same rfl rfl rfl | exact trivial | (intro Q h; refine h ?_; clear h Q) | refine And.intro ?_ ?_ | exact sub_sl rfl rfl rfl | exact sub_refl_val _ _ | exact row_same rfl rfl rfl | ((first | refine sub_int ?_ ); first | with_reducible rfl | omega | ((try simp only [wS]); omega) | rfl) ))))); (any_goals (apply okIx_mk; rfl)))); (all_goals (try (first | omega | (simp only; omega)))))
    ))
end Go.Vx.L53

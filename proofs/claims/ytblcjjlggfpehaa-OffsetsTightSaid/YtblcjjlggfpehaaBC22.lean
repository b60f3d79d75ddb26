/- Lemmas of a small executor for the model, and contracts of functions, used for the law that this claim proves. No condition. -/
import Derived.Test.YtblcjjlggfpehaaBC21
set_option linter.unusedSimpArgs false
set_option linter.unusedVariables false
set_option maxRecDepth 100000
namespace Go.Vx.L53
open Go Go.Proofs
theorem fam_setv {ρ : Nat → Option Nat} {rw : Bool} {t te n n' y y' i k : Nat} {rs rs' : List (List Int)} {v v' : Int} (hr : rs = ms rs' i k v) (hv : v' = v) (hi : i < rs'.length) (hk : k < (rs'.getD i []).length) (hn : n' = n) :
    BSub ρ (.fam rw t te 1 n (famF intC 0 rs) none y) (.fam true t te 1 n' (setRow (famF intC 0 rs') i ((famF intC 0 rs' i).1, fun i' j' => bif Nat.beq i' k && (Nat.ble 0 j' && Nat.blt j' (0 + 1)) then [AV.val (.int .i64 v')].getD (j' - 0) .dead else (famF intC 0 rs' i).2 i' j')) none y') := by
  subst hv
  refine fam_put (l := (rs'.getD i []).set k v') (row_setl rfl (subL_cons (sub_refl_val _ _) subL_nil) hk rfl rfl ?_) ?_ hr hn hi
  · rw [famF_fst]
  · rw [famF_fst, List.length_set]
theorem set_self {α : Type} (l : List α) (i : Nat) (d : α) : l.set i (l.getD i d) = l := by
  refine List.ext_getElem? fun k => ?_
  rw [List.getElem?_set]
  split
  · rename_i h
    subst h
    rw [List.getD_eq_getElem?_getD]
    split
    · rename_i h; rw [List.getElem?_eq_getElem h]; rfl
    · rename_i h; rw [List.getElem?_eq_none (by omega)]
  · rfl
theorem ms_self (M : List (List Int)) (i j : Nat) : ms M i j (mg M i j) = M := by
  unfold ms mg
  rw [set_self, set_self]
theorem fS_lsr {k i j : Nat} {M : List (List Int)} (h1 : mg M i k ≠ NN) (h2 : mg M k j ≠ NN) : fS k i M j = ms M i j (lsr (mg M i j) (IntKind.i64.wrap (mg M i k + mg M k j))) := by
  unfold fS lsr
  by_cases h : IntKind.i64.wrap (mg M i k + mg M k j) < mg M i j
  · rw [if_pos ⟨h1, h2, h⟩, if_pos h]
  · rw [if_neg (fun h3 => h h3.2.2), if_neg h, ms_self]
theorem fS_no {k i j : Nat} {M : List (List Int)} (h2 : mg M k j = NN) : fS k i M j = M := by
  unfold fS
  rw [if_neg (fun h => h.2.1 h2)]
set_option maxHeartbeats 2000000 in
theorem matrix_ok (l : List Cn) (cap : Option Nat) (n : Nat) (hn : 1 ≤ n ∧ n ≤ 160) (hl : l.length ≤ 4096) (hok : allOK n l) :
    Runs Try.prog 56 [.val (.int .i64 n), aN l cap] [cB false l] (Det (.sl 1 1 0 n none) [cB false l, fB n (fw n l)]) := by
  refine Runs.mk tabOK Try.call56 Try.func56 rfl Try.ntmps56 Try.results56 rfl ?_
  (repeat' (first
    | (intro Q h; refine h ?_; clear h Q)
    | refine seq_go ?_
    | refine And.intro (by first | omega | ((try simp only [wS]); omega) | rfl | decide) ?_
    ))
  refine loop_inv (σ := Nat) (fun x => x ≤ n) (fun x => ⟨[(0, .val (.int .i64 n)), (1, aN l cap), (5, .sl 1 1 0 n none), (16, .val (.int .i64 n)), (17, .val (.int .i64 x))], [cB false l, fB n (iniR n x)]⟩) (fun x => n - x) (0) ?_ ?_ ?_
  · omega
  · (apply le_mk [some 0, some 1]; (focus (iterate 2 (all_goals (repeat' (first | exact fam_new rfl rfl | exact trivial | (intro Q h; refine h ?_; clear h Q) | refine And.intro ?_ ?_ | exact sub_sl rfl rfl rfl | exact sub_refl_val _ _ | exact row_same rfl rfl rfl ))))); (any_goals (apply okIx_mk; rfl)))
  rintro i hi
  by_cases hin : i < n
  · have hzi : 0 + Int.toNat i = i := by omega
    have hI := iniR_len n i (by omega)
    have hg := iniR_get n i hin
    have hN := iniR_next n i hin
    generalize iniR n i = R at *
    (repeat' (first
    | (intro Q h; refine h ?_; clear h Q)
    | (refine bcase_mk (fun hb => ?_) (fun hb => ?_) <;> (try simp only [nS, nT, eq_self, reduceCtorEq] at hb) <;> (try (exfalso; (omega); done)))
    | refine seq_go ?_
    | refine And.intro (by first | omega | ((try simp only [wS]); omega) | rfl | decide) ?_
    ))
    refine loop_inv (σ := Nat) (fun x => x ≤ n) (fun x => ⟨[(0, .val (.int .i64 n)), (1, aN l cap), (5, .sl 1 1 0 n none), (6, .val (.int .i64 i)), (16, .val (.int .i64 n)), (17, .val (.int .i64 i)), (29, .val (.int .i64 n)), (30, .val (.int .i64 x))], [cB false l, fB n (R.set i (List.replicate x NN ++ List.replicate (n - x) 0))]⟩) (fun x => n - x) (0) ?_ ?_ ?_
    · omega
    · (apply le_mk [some 0, some 1]; (focus (iterate 2 (all_goals (repeat' (first | exact trivial | (intro Q h; refine h ?_; clear h Q) | refine And.intro ?_ ?_ | exact sub_sl rfl rfl rfl | exact sub_refl_val _ _ | exact row_same rfl rfl rfl | refine sub_int ?_ ))))); (any_goals (apply okIx_mk; rfl)))
      · rw [setRow_same]; simp
      · exact fam_put (l := List.replicate n 0) (row_rep (x := 0) (subL_cons (sub_refl_val _ _) subL_nil) (by simp) (by simp)) (by simp) (by simp) rfl (by omega)
    rintro x hx
    have hgx := hg (List.replicate x NN ++ List.replicate (n - x) 0)
    have hfl : (List.replicate x NN ++ List.replicate (n - x) 0).length = n := by simp; omega
    by_cases hxn : x < n
    · have hz : 0 + Int.toNat x = x := by omega
      have hf := fill_set n x hxn NN 0
      have hf' : R.set i (List.replicate (x + 1) NN ++ List.replicate (n - (x + 1)) 0) = ms (R.set i (List.replicate x NN ++ List.replicate (n - x) 0)) (0 + Int.toNat i) (0 + Int.toNat x) NN := by
        unfold ms
        rw [hz, hzi, hgx, hf, List.set_set]
      have hl2 : (R.set i (List.replicate x NN ++ List.replicate (n - x) 0)).length = n := by rw [List.length_set, hI]
      have hrl : ((R.set i (List.replicate x NN ++ List.replicate (n - x) 0)).getD (0 + Int.toNat i) []).length = n := by rw [hzi, hgx, hfl]
      have hr1 := famF_fst intC 0 (R.set i (List.replicate x NN ++ List.replicate (n - x) 0)) (0 + Int.toNat i)
      generalize R.set i (List.replicate x NN ++ List.replicate (n - x) 0) = R1 at *
      rw [hrl] at hr1
      (repeat' (first
    | (intro Q h; refine h ?_; clear h Q)
    | (refine bcase_mk (fun hb => ?_) (fun hb => ?_) <;> (try simp only [nS, nT, eq_self, reduceCtorEq] at hb) <;> (try (exfalso; (omega); done)))
    | refine seq_go ?_
    | refine And.intro (by first | omega | ((try simp only [wS]); omega) | rfl | decide) ?_
    | (apply next_sub (Subtype.mk (x + 1) (by first | omega | (simp only; omega))); (focus (rw [hf']; apply le_mk [some 0, some 1]; (focus (iterate 2 (all_goals (repeat' (first | exact trivial | (intro Q h; refine h ?_; clear h Q) | refine And.intro ?_ ?_ | exact sub_sl rfl rfl rfl | exact sub_refl_val _ _ | exact row_same rfl rfl rfl | ((first | refine sub_int ?_ ); first | with_reducible rfl | omega | ((try simp only [wS]); omega) | rfl) ))))); (any_goals (apply okIx_mk; rfl)))); (all_goals (try (first | (simp only; omega)))))
    ))
      all_goals (exact fam_setv rfl rfl (by omega) (by omega) rfl)
    · have hxx : n = x := by omega
      subst hxx
      rw [Nat.sub_self, List.replicate_zero, List.append_nil] at *
      have hN' : iniR n (i + 1) = ms (R.set i (List.replicate n NN)) (0 + Int.toNat i) (0 + Int.toNat i) 0 := by
        unfold ms
        rw [hzi, hgx, List.set_set, ← hN]; rfl
      have hl2 : (R.set i (List.replicate n NN)).length = n := by rw [List.length_set, hI]
      have hrl : ((R.set i (List.replicate n NN)).getD (0 + Int.toNat i) []).length = n := by rw [hzi, hgx, hfl]
      have hr1 := famF_fst intC 0 (R.set i (List.replicate n NN)) (0 + Int.toNat i)
      generalize R.set i (List.replicate n NN) = R1 at *
      rw [hrl] at hr1
      (repeat' (first
    | (intro Q h; refine h ?_; clear h Q)
    | (refine bcase_mk (fun hb => ?_) (fun hb => ?_) <;> (try simp only [nS, nT, eq_self, reduceCtorEq] at hb) <;> (try (exfalso; (omega); done)))
    | refine And.intro (by first | omega | ((try simp only [wS]); omega) | rfl | decide) ?_
    | (apply next_sub (Subtype.mk (i + 1) (by first | omega | (simp only; omega))); (focus (rw [hN']; apply le_mk [some 0, some 1]; (focus (iterate 2 (all_goals (repeat' (first | exact trivial | (intro Q h; refine h ?_; clear h Q) | refine And.intro ?_ ?_ | exact sub_sl rfl rfl rfl | exact sub_refl_val _ _ | exact row_same rfl rfl rfl | ((first | refine sub_int ?_ ); first | with_reducible rfl | omega | ((try simp only [wS]); omega) | rfl) ))))); (any_goals (apply okIx_mk; rfl)))); (all_goals (try (first | (simp only; omega)))))
    ))
      all_goals (exact fam_setv rfl rfl (by omega) (by omega) rfl)
  have hii : n = i := by omega
  subst hii
  have hM0 : iniR n n = mL n l 0 := rfl
  have hMs := mL_sq hok
  have hML : fw n l = fK n (mL n l l.length) n := rfl
  have hMc : ∀ x, mL n l (x + 1) = mC (mL n l x) (l.getD x cn0) := fun _ => rfl
  rw [hM0]
  (repeat' (first
    | (intro Q h; refine h ?_; clear h Q)
    | (refine bcase_mk (fun hb => ?_) (fun hb => ?_) <;> (try simp only [nS, nT, eq_self, reduceCtorEq] at hb) <;> (try (exfalso; (omega); done)))
    | refine seq_go ?_
    ))
  refine loop_inv (σ := Nat) (fun x => x ≤ l.length) (fun x => ⟨[(0, .val (.int .i64 n)), (5, .sl 1 1 0 n none), (47, aN l cap), (48, .val (.int .i64 l.length)), (49, .val (.int .i64 x))], [cB false l, fB n (mL n l x)]⟩) (fun x => l.length - x) (0) ?_ ?_ ?_
  · omega
  · (apply le_mk [some 0, some 1]; (focus (iterate 2 (all_goals (repeat' (first | exact fam_same rfl rfl rfl | exact trivial | (intro Q h; refine h ?_; clear h Q) | refine And.intro ?_ ?_ | exact sub_sl rfl rfl rfl | exact sub_refl_val _ _ | exact row_same rfl rfl rfl ))))); (any_goals (apply okIx_mk; rfl)))
  rintro x hx
  have hS := hMs x hx
  by_cases hxl : x < l.length
  · have hz : 0 + Int.toNat x = x := by omega
    have hc := hok _ (getD_mem l x cn0 hxl)
    have hT := hMc x
    rw [← hz] at hc
    obtain ⟨⟨a0, a1⟩, ⟨b0, b1⟩, w0, w1⟩ := hc
    have hT' : mL n l (x + 1) = ms (mL n l x) (0 + (l.getD (0 + Int.toNat x) cn0).a.toNat) (0 + (l.getD (0 + Int.toNat x) cn0).b.toNat) (lsr (((mL n l x).getD (0 + (l.getD (0 + Int.toNat x) cn0).a.toNat) []).getD (0 + (l.getD (0 + Int.toNat x) cn0).b.toNat) 0) (l.getD (0 + Int.toNat x) cn0).w) := by
      rw [hT, hz]; simp only [Nat.zero_add]; rfl
    have hrl := hS.row (0 + (l.getD (0 + Int.toNat x) cn0).a.toNat) (by omega)
    have hr1 := famF_fst intC 0 (mL n l x) (0 + (l.getD (0 + Int.toNat x) cn0).a.toNat)
    have hlen := hS.len
    rw [hrl] at hr1
    have hls := lesser_ok (((mL n l x).getD (0 + (l.getD (0 + Int.toNat x) cn0).a.toNat) []).getD (0 + (l.getD (0 + Int.toNat x) cn0).b.toNat) 0) (l.getD (0 + Int.toNat x) cn0).w
    generalize mL n l x = M at *
    (repeat' (first
    | (intro Q h; refine h ?_; clear h Q)
    | (refine bcase_mk (fun hb => ?_) (fun hb => ?_) <;> (try simp only [nS, nT, eq_self, reduceCtorEq] at hb) <;> (try (exfalso; (omega); done)))
    | refine draw_mk (by decide +kernel) ?_
    | refine seq_go ?_
    | refine And.intro (by first | omega | ((try simp only [wS]); omega) | rfl | decide) ?_
    | ((first | apply calld0 (hls)); (focus ((iterate 2 (all_goals (repeat' (first | exact subL_nil | refine subL_cons ?_ ?_ | exact sub_refl_val _ _ )))); done)))
    | (apply next_sub (Subtype.mk (x + 1) (by first | omega | (simp only; omega))); (focus (rw [hT']; apply le_mk [some 0, some 1]; (focus (iterate 2 (all_goals (repeat' (first | exact trivial | (intro Q h; refine h ?_; clear h Q) | refine And.intro ?_ ?_ | exact sub_sl rfl rfl rfl | exact sub_refl_val _ _ | exact row_same rfl rfl rfl | ((first | refine sub_int ?_ ); first | with_reducible rfl | omega | ((try simp only [wS]); omega) | rfl) ))))); (any_goals (apply okIx_mk; rfl)))); (all_goals (try (first | (simp only; omega)))))
    ))
    all_goals (exact fam_setv rfl rfl (by omega) (by omega) rfl)
  have hxx : l.length = x := by omega
  subst hxx
  rw [hML]
  have hKs := fun k hk => fK_sq hS k hk
  generalize mL n l l.length = M at *
  (repeat' (first
    | (intro Q h; refine h ?_; clear h Q)
    | (refine bcase_mk (fun hb => ?_) (fun hb => ?_) <;> (try simp only [nS, nT, eq_self, reduceCtorEq] at hb) <;> (try (exfalso; (omega); done)))
    | refine seq_go ?_
    ))
  refine loop_inv (σ := Nat) (fun x => x ≤ n) (fun x => ⟨[(0, .val (.int .i64 n)), (5, .sl 1 1 0 n none), (74, .val (.int .i64 n)), (75, .val (.int .i64 x))], [cB false l, fB n (fK n M x)]⟩) (fun x => n - x) (0) ?_ ?_ ?_
  · omega
  · (apply le_mk [some 0, some 1]; (focus (iterate 2 (all_goals (repeat' (first | exact fam_same rfl rfl rfl | exact trivial | (intro Q h; refine h ?_; clear h Q) | refine And.intro ?_ ?_ | exact sub_sl rfl rfl rfl | exact sub_refl_val _ _ | exact row_same rfl rfl rfl ))))); (any_goals (apply okIx_mk; rfl)))
  rintro k hk
  have hA := hKs k hk
  by_cases hkn : k < n
  rotate_left
  · have hkk : n = k := by omega
    subst hkk
    generalize fK n M n = A at *
    (repeat' (first
    | (intro Q h; refine h ?_; clear h Q)
    | (refine bcase_mk (fun hb => ?_) (fun hb => ?_) <;> (try simp only [nS, nT, eq_self, reduceCtorEq] at hb) <;> (try (exfalso; (omega); done)))
    | (apply ret_mk [some 0, some 1]; (focus (iterate 2 (all_goals (repeat' (first | exact fam_same rfl rfl rfl | exact trivial | (intro Q h; refine h ?_; clear h Q) | refine And.intro ?_ ?_ | exact sub_sl rfl rfl rfl | exact row_same rfl rfl rfl ))))); (any_goals (apply okIx_mk; rfl)))
    ))
  have hzk : 0 + Int.toNat k = k := by omega
  have hKn : fK n M (k + 1) = fI n k (fK n M k) n := rfl
  have hIs := fun i hi => fI_sq (k := k) hA i hi
  generalize fK n M k = A at *
  (repeat' (first
    | (intro Q h; refine h ?_; clear h Q)
    | (refine bcase_mk (fun hb => ?_) (fun hb => ?_) <;> (try simp only [nS, nT, eq_self, reduceCtorEq] at hb) <;> (try (exfalso; (omega); done)))
    | refine seq_go ?_
    ))
  refine loop_inv (σ := Nat) (fun x => x ≤ n) (fun x => ⟨[(0, .val (.int .i64 n)), (5, .sl 1 1 0 n none), (10, .val (.int .i64 k)), (74, .val (.int .i64 n)), (75, .val (.int .i64 k)), (78, .val (.int .i64 n)), (79, .val (.int .i64 x))], [cB false l, fB n (fI n k A x)]⟩) (fun x => n - x) (0) ?_ ?_ ?_
  · omega
  · (apply le_mk [some 0, some 1]; (focus (iterate 2 (all_goals (repeat' (first | exact fam_same rfl rfl rfl | exact trivial | (intro Q h; refine h ?_; clear h Q) | refine And.intro ?_ ?_ | exact sub_sl rfl rfl rfl | exact sub_refl_val _ _ | exact row_same rfl rfl rfl ))))); (any_goals (apply okIx_mk; rfl)))
  rintro i hi
  have hB := hIs i hi
  by_cases hin : i < n
  rotate_left
  · have hii : n = i := by omega
    subst hii
    rw [← hKn]
    (repeat' (first
    | (intro Q h; refine h ?_; clear h Q)
    | (refine bcase_mk (fun hb => ?_) (fun hb => ?_) <;> (try simp only [nS, nT, eq_self, reduceCtorEq] at hb) <;> (try (exfalso; (omega); done)))
    | (apply next_sub (Subtype.mk (k + 1) _); (focus (apply le_mk [some 0, some 1]; (focus (iterate 2 (all_goals (repeat' (first | exact fam_same rfl rfl rfl | exact trivial | (intro Q h; refine h ?_; clear h Q) | refine And.intro ?_ ?_ | exact sub_sl rfl rfl rfl | exact sub_refl_val _ _ | exact row_same rfl rfl rfl | ((first | refine sub_int ?_ ); first | with_reducible rfl | omega | ((try simp only [wS]); omega) | rfl) ))))); (any_goals (apply okIx_mk; rfl)))); (all_goals (try (first | omega | (simp only; omega)))))
    ))
  have hzi : 0 + Int.toNat i = i := by omega
  have hIn : fI n k A (i + 1) = fJ k i (fI n k A i) n := rfl
  have hJs := fun j hj => fJ_sq (k := k) hB hin j hj
  have hJn := fun j hj => fJ_nn hB hin hkn j hj
  have hBr := hB.row i hin
  have hBl := hB.len
  generalize fI n k A i = B at *
  have hr1 := famF_fst intC 0 B i
  rw [hBr] at hr1
  by_cases hnn : mg B i k = NN
  · have hE := (hJn n (Nat.le_refl _)).2 hnn
    rw [hE] at hIn
    have hnn' : (B.getD (0 + Int.toNat i) []).getD (0 + Int.toNat k) 0 = 4611686018427387904 := by rw [hzi, hzk]; exact hnn
    rw [← hzi] at hr1
    (repeat' (first
    | (intro Q h; refine h ?_; clear h Q)
    | (refine bcase_mk (fun hb => ?_) (fun hb => ?_) <;> (try simp only [nS, nT, eq_self, reduceCtorEq] at hb) <;> (try (exfalso; (omega); done)))
    | refine seq_go ?_
    | refine And.intro (by first | omega | ((try simp only [wS]); omega) | rfl | decide) ?_
    | (apply next_sub (Subtype.mk (i + 1) (by first | omega | (simp only; omega))); (focus (rw [hIn]; apply le_mk [some 0, some 1]; (focus (iterate 2 (all_goals (repeat' (first | exact fam_same rfl rfl rfl | exact trivial | (intro Q h; refine h ?_; clear h Q) | refine And.intro ?_ ?_ | exact sub_sl rfl rfl rfl | exact sub_refl_val _ _ | exact row_same rfl rfl rfl | ((first | refine sub_int ?_ ); first | with_reducible rfl | omega | ((try simp only [wS]); omega) | rfl) ))))); (any_goals (apply okIx_mk; rfl)))); (all_goals (try (first | (simp only; omega)))))
    ))
  · have hnn' : ¬ (B.getD (0 + Int.toNat i) []).getD (0 + Int.toNat k) 0 = 4611686018427387904 := by rw [hzi, hzk]; exact hnn
    rw [← hzi] at hr1
    (repeat' (first
    | (intro Q h; refine h ?_; clear h Q)
    | (refine bcase_mk (fun hb => ?_) (fun hb => ?_) <;> (try simp only [nS, nT, eq_self, reduceCtorEq] at hb) <;> (try (exfalso; (omega); done)))
    | refine seq_go ?_
    | refine And.intro (by first | omega | ((try simp only [wS]); omega) | rfl | decide) ?_
    ))
    refine loop_inv (σ := Nat) (fun x => x ≤ n) (fun x => ⟨[(0, .val (.int .i64 n)), (5, .sl 1 1 0 n none), (10, .val (.int .i64 k)), (11, .val (.int .i64 i)), (74, .val (.int .i64 n)), (75, .val (.int .i64 k)), (78, .val (.int .i64 n)), (79, .val (.int .i64 i)), (90, .val (.int .i64 n)), (91, .val (.int .i64 x))], [cB false l, fB n (fJ k i B x)]⟩) (fun x => n - x) (0) ?_ ?_ ?_
    · omega
    · (apply le_mk [some 0, some 1]; (focus (iterate 2 (all_goals (repeat' (first | exact fam_same rfl rfl rfl | exact trivial | (intro Q h; refine h ?_; clear h Q) | refine And.intro ?_ ?_ | exact sub_sl rfl rfl rfl | exact sub_refl_val _ _ | exact row_same rfl rfl rfl ))))); (any_goals (apply okIx_mk; rfl)))
    rintro j hj
    have hC := hJs j hj
    have hCn := (hJn j hj).1
    by_cases hjn : j < n
    · have hzj : 0 + Int.toNat j = j := by omega
      have hS : fJ k i B (j + 1) = fS k i (fJ k i B j) j := rfl
      generalize fJ k i B j = C at *
      have hCi : mg C i k ≠ NN := fun h => hnn (hCn.1 h)
      have hS1 : (C.getD (0 + Int.toNat k) []).getD (0 + Int.toNat j) 0 = 4611686018427387904 → fJ k i B (j + 1) = C := fun h => by
        rw [hzj, hzk] at h
        rw [hS]; exact fS_no h
      have hS2 : ¬ (C.getD (0 + Int.toNat k) []).getD (0 + Int.toNat j) 0 = 4611686018427387904 → fJ k i B (j + 1) = ms C (0 + Int.toNat i) (0 + Int.toNat j) (lsr ((C.getD (0 + Int.toNat i) []).getD (0 + Int.toNat j) 0) (IntKind.i64.wrap ((C.getD (0 + Int.toNat i) []).getD (0 + Int.toNat k) 0 + (C.getD (0 + Int.toNat k) []).getD (0 + Int.toNat j) 0))) := fun h => by
        rw [hzj, hzk, hzi] at *
        rw [hS]; exact fS_lsr hCi h
      have hls := lesser_ok ((C.getD (0 + Int.toNat i) []).getD (0 + Int.toNat j) 0) (IntKind.i64.wrap ((C.getD (0 + Int.toNat i) []).getD (0 + Int.toNat k) 0 + (C.getD (0 + Int.toNat k) []).getD (0 + Int.toNat j) 0))
      have hrl := hC.row i hin
      have hrl2 := hC.row k hkn
      have hlen := hC.len
      rw [← hzi] at hrl
      rw [← hzk] at hrl2
      have hr1 := famF_fst intC 0 C (0 + Int.toNat i)
      have hr2 := famF_fst intC 0 C (0 + Int.toNat k)
      rw [hrl] at hr1
      rw [hrl2] at hr2
      (repeat' (first
    | (intro Q h; refine h ?_; clear h Q)
    | (refine bcase_mk (fun hb => ?_) (fun hb => ?_) <;> (try simp only [nS, nT, eq_self, reduceCtorEq] at hb) <;> (try (exfalso; (omega); done)))
    | refine draw_mk (by decide +kernel) ?_
    | refine seq_go ?_
    | refine And.intro (by first | omega | ((try simp only [wS]); omega) | rfl | decide) ?_
    | ((first | apply calld0 (hls)); (focus ((iterate 2 (all_goals (repeat' (first | exact subL_nil | refine subL_cons ?_ ?_ | exact sub_refl_val _ _ )))); done)))
    | (apply next_sub (Subtype.mk (j + 1) (by first | omega | (simp only; omega))); (focus (rw [hS1 (by omega)]; apply le_mk [some 0, some 1]; (focus (iterate 2 (all_goals (repeat' (first | exact fam_same rfl rfl rfl | exact trivial | (intro Q h; refine h ?_; clear h Q) | refine And.intro ?_ ?_ | exact sub_sl rfl rfl rfl | exact sub_refl_val _ _ | exact row_same rfl rfl rfl | ((first | refine sub_int ?_ ); first | with_reducible rfl | omega | ((try simp only [wS]); omega) | rfl) ))))); (any_goals (apply okIx_mk; rfl)))); (all_goals (try (first | (simp only; omega)))))
    | (apply next_sub (Subtype.mk (j + 1) (by first | omega | (simp only; omega))); (focus (rw [hS2 (by omega)]; apply le_mk [some 0, some 1]; (focus (iterate 2 (all_goals (repeat' (first | exact trivial | (intro Q h; refine h ?_; clear h Q) | refine And.intro ?_ ?_ | exact sub_sl rfl rfl rfl | exact sub_refl_val _ _ | exact row_same rfl rfl rfl | ((first | refine sub_int ?_ ); first | with_reducible rfl | omega | ((try simp only [wS]); omega) | rfl) ))))); (any_goals (apply okIx_mk; rfl)))); (all_goals (try (first | (simp only; omega)))))
    ))
      all_goals (exact fam_setv rfl rfl (by omega) (by omega) rfl)
    · have hjj : n = j := by omega
      subst hjj
      rw [← hIn]
      (repeat' (first
    | (intro Q h; refine h ?_; clear h Q)
    | (refine bcase_mk (fun hb => ?_) (fun hb => ?_) <;> (try simp only [nS, nT, eq_self, reduceCtorEq] at hb) <;> (try (exfalso; (omega); done)))
    | (apply next_sub (Subtype.mk (i + 1) _); (focus (apply le_mk [some 0, some 1]; (focus (iterate 2 (all_goals (repeat' (first | exact fam_same rfl rfl rfl | exact trivial | (intro Q h; refine h ?_; clear h Q) | refine And.intro ?_ ?_ | exact sub_sl rfl rfl rfl | exact sub_refl_val _ _ | exact row_same rfl rfl rfl | ((first | refine sub_int ?_ ); first | with_reducible rfl | omega | ((try simp only [wS]); omega) | rfl) ))))); (any_goals (apply okIx_mk; rfl)))); (all_goals (try (first | omega | (simp only; omega)))))
    ))
end Go.Vx.L53

/- Lemmas of a small executor for the model, and contracts of functions, used for the law that this claim proves. No condition. -/
import Derived.Test.YtgpgmoodfnamjaaBB23
set_option linter.unusedSimpArgs false
set_option linter.unusedVariables false
set_option maxRecDepth 100000
namespace Go.Vx.L18
open Go Go.Proofs
set_option maxHeartbeats 2000000 in
theorem topoDistances (n : Int) (l : List Ed) (cap : Option Nat) (hl : l.length ≤ maxLen) :
    Runs Try.prog 7 [gA n l cap] [gB l] (Det (.sb true) [gB l]) := by
  have hmx : maxLen = 9223372036854775807 := by decide
  have hck := check_ok n l cap hl
  by_cases hc : ckC n l = 0
  rotate_left
  · refine Runs.mk tabOK Try.call7 Try.func7 rfl Try.ntmps7 Try.results7 rfl ?_
    (repeat' (first
    | (intro Q h; refine h ?_; clear h Q)
    | (with_reducible refine bcase_true ?_)
    | (with_reducible refine bcase_false ?_)
    | (refine bcase_mk (fun hb => ?_) (fun hb => ?_) <;> (try simp only [nS, nT, eq_self, reduceCtorEq] at hb) <;> (try (exfalso; (first | omega | (rw [hN] at hb; cases hb) | exact hb (decide_eq_decide.2 hz0) | exact hb (by rw [hX', hY']; exact decide_eq_decide.2 hs3)); done)))
    | refine nil_mk (fun hz => ?_) ?_
    | refine cp_full (by first | with_reducible rfl | omega | ((try simp only [wS]); omega) | rfl) (by first | with_reducible rfl | omega | ((try simp only [wS]); omega) | rfl) (by first | with_reducible rfl | omega | ((try simp only [wS]); omega) | rfl) ?_
    | refine draw_mk (by decide +kernel) ?_
    | refine seq_go ?_
    | refine And.intro (by first | omega | ((try simp only [wS]); omega) | rfl | decide) ?_
    | ((first | apply call1 (long_ok n l cap hl) | apply calld1 (long_ok n l cap hl)); (focus (iterate 2 (all_goals (repeat' (first | exact sub_dead | exact fam_same rfl rfl rfl | exact fam_rd rfl rfl | exact fam_ren rfl rfl rfl | exact row_nm rfl rfl | (refine row_nm rfl ?_) | exact sub_map rfl | exact map_same rfl | exact map_updc rfl | refine map_updc ?_ | refine map_same ?_ | refine map_mk ?_ ?_ | exact subL_nil | exact trivial | (intro Q h; refine h ?_; clear h Q) | refine And.intro ?_ ?_ | refine subL_cons ?_ ?_ | refine sub_agg ?_ | refine sub_tup ?_ | refine sub_fn ?_ | refine sub_bfn ?_ ?_ | refine var_mk ?_ | refine rd_var ?_ rfl | refine rd_rd ?_ | exact sub_ptr rfl rfl | exact sub_sl rfl rfl rfl | exact sub_refl_val _ _ | exact sub_sb rfl | exact sub_sbl rfl | exact row_same rfl rfl rfl | exact row_ren rfl rfl rfl | exact sub_nil rfl | ((first | refine sub_int ?_ | refine sub_sl rfl rfl ?_ | refine sub_nil ?_ | refine virt_mk ?_ | show (_ : Nat) = _); first | with_reducible rfl | omega | ((try simp only [wS]); omega) | rfl) | apply row_app1 | apply row_app2 | apply row_app1r | refine cells_succ ?_ ?_ | exact cell0 | with_reducible rfl | (refine And.left (b := True) ⟨?_, True.intro⟩; assumption) | refine sub_int ?_ | refine sub_sb ?_ | refine sub_sbl ?_ | refine sub_sl rfl rfl ?_ | (apply row_lit rfl; (focus (refine cells_succ ?_ ?_))) | refine row_same rfl ?_ ?_ | refine row_ren rfl ?_ ?_))))); (try (any_goals (first | (apply nodup_mk; rfl) | (apply nodup_mk2; rfl) | (apply nodup_mk3; rfl)))))
    | ((first | apply call0 (awake_ok) | apply calld0 (awake_ok)); (focus (iterate 2 (all_goals (repeat' (first | exact sub_dead | exact fam_same rfl rfl rfl | exact fam_rd rfl rfl | exact fam_ren rfl rfl rfl | exact row_nm rfl rfl | (refine row_nm rfl ?_) | exact sub_map rfl | exact map_same rfl | exact map_updc rfl | refine map_updc ?_ | refine map_same ?_ | refine map_mk ?_ ?_ | exact subL_nil | exact trivial | (intro Q h; refine h ?_; clear h Q) | refine And.intro ?_ ?_ | refine subL_cons ?_ ?_ | refine sub_agg ?_ | refine sub_tup ?_ | refine sub_fn ?_ | refine sub_bfn ?_ ?_ | refine var_mk ?_ | refine rd_var ?_ rfl | refine rd_rd ?_ | exact sub_ptr rfl rfl | exact sub_sl rfl rfl rfl | exact sub_refl_val _ _ | exact sub_sb rfl | exact sub_sbl rfl | exact row_same rfl rfl rfl | exact row_ren rfl rfl rfl | exact sub_nil rfl | ((first | refine sub_int ?_ | refine sub_sl rfl rfl ?_ | refine sub_nil ?_ | refine virt_mk ?_ | show (_ : Nat) = _); first | with_reducible rfl | omega | ((try simp only [wS]); omega) | rfl) | apply row_app1 | apply row_app2 | apply row_app1r | refine cells_succ ?_ ?_ | exact cell0 | with_reducible rfl | (refine And.left (b := True) ⟨?_, True.intro⟩; assumption) | refine sub_int ?_ | refine sub_sb ?_ | refine sub_sbl ?_ | refine sub_sl rfl rfl ?_ | (apply row_lit rfl; (focus (refine cells_succ ?_ ?_))) | refine row_same rfl ?_ ?_ | refine row_ren rfl ?_ ?_))))))
    | ((first | apply call1 (hck) | apply calld1 (hck)); (focus (iterate 2 (all_goals (repeat' (first | exact sub_dead | exact fam_same rfl rfl rfl | exact fam_rd rfl rfl | exact fam_ren rfl rfl rfl | exact row_nm rfl rfl | (refine row_nm rfl ?_) | exact sub_map rfl | exact map_same rfl | exact map_updc rfl | refine map_updc ?_ | refine map_same ?_ | refine map_mk ?_ ?_ | exact subL_nil | exact trivial | (intro Q h; refine h ?_; clear h Q) | refine And.intro ?_ ?_ | refine subL_cons ?_ ?_ | refine sub_agg ?_ | refine sub_tup ?_ | refine sub_fn ?_ | refine sub_bfn ?_ ?_ | refine var_mk ?_ | refine rd_var ?_ rfl | refine rd_rd ?_ | exact sub_ptr rfl rfl | exact sub_sl rfl rfl rfl | exact sub_refl_val _ _ | exact sub_sb rfl | exact sub_sbl rfl | exact row_same rfl rfl rfl | exact row_ren rfl rfl rfl | exact sub_nil rfl | ((first | refine sub_int ?_ | refine sub_sl rfl rfl ?_ | refine sub_nil ?_ | refine virt_mk ?_ | show (_ : Nat) = _); first | with_reducible rfl | omega | ((try simp only [wS]); omega) | rfl) | apply row_app1 | apply row_app2 | apply row_app1r | refine cells_succ ?_ ?_ | exact cell0 | with_reducible rfl | (refine And.left (b := True) ⟨?_, True.intro⟩; assumption) | refine sub_int ?_ | refine sub_sb ?_ | refine sub_sbl ?_ | refine sub_sl rfl rfl ?_ | (apply row_lit rfl; (focus (refine cells_succ ?_ ?_))) | refine row_same rfl ?_ ?_ | refine row_ren rfl ?_ ?_))))); (try (any_goals (first | (apply nodup_mk; rfl) | (apply nodup_mk2; rfl) | (apply nodup_mk3; rfl)))))
    | (apply ret_mk [some 0]; (focus (iterate 2 (all_goals (repeat' (first | exact sub_dead | exact fam_same rfl rfl rfl | exact fam_rd rfl rfl | exact fam_ren rfl rfl rfl | exact row_nm rfl rfl | (refine row_nm rfl ?_) | exact sub_map rfl | exact map_same rfl | exact map_updc rfl | refine map_updc ?_ | refine map_same ?_ | refine map_mk ?_ ?_ | exact subL_nil | exact trivial | (intro Q h; refine h ?_; clear h Q) | refine And.intro ?_ ?_ | refine subL_cons ?_ ?_ | refine sub_agg ?_ | refine sub_tup ?_ | refine sub_fn ?_ | refine sub_bfn ?_ ?_ | refine var_mk ?_ | refine rd_var ?_ rfl | refine rd_rd ?_ | exact sub_ptr rfl rfl | exact sub_sl rfl rfl rfl | exact sub_refl_val _ _ | exact sub_sb rfl | exact sub_sbl rfl | exact row_same rfl rfl rfl | exact row_ren rfl rfl rfl | exact sub_nil rfl | ((first | refine sub_int ?_ | refine sub_sl rfl rfl ?_ | refine sub_nil ?_ | refine virt_mk ?_ | show (_ : Nat) = _); first | with_reducible rfl | omega | ((try simp only [wS]); omega) | rfl) | apply row_app1 | apply row_app2 | apply row_app1r | refine cells_succ ?_ ?_ | exact cell0 | with_reducible rfl | (refine And.left (b := True) ⟨?_, True.intro⟩; assumption) | refine sub_int ?_ | refine sub_sb ?_ | refine sub_sbl ?_ | refine sub_sl rfl rfl ?_ | (apply row_lit rfl; (focus (refine cells_succ ?_ ?_))) | refine row_same rfl ?_ ?_ | refine row_ren rfl ?_ ?_))))); (any_goals (apply okIx_mk; rfl)))
    | omega))
    all_goals (exfalso; simp_all; done)
  rw [hc] at hck
  obtain ⟨m, rfl, hm, hl64, hed⟩ := ckC_parts hc
  have hlong := long_ok m l cap hl
  have hsg := sound_ok m l cap hl hc
  have hdg := diam_ok m l cap hl
  have hcp := comp_ok m l cap hl
  have ecp : cpA m l = cpF m l := by unfold cpA; rw [if_pos hc, Int.toNat_natCast]
  have edm : dmA m l = dmS m l m := by unfold dmA; rw [if_pos hc, Int.toNat_natCast]
  have hCl := cpF_len hed
  rw [ecp, hCl] at hcp
  rw [edm] at hdg
  have hRD : ∀ i, i < m → (sdF m l m).getD i [] = dsF m l i := fun i hi => sdF_get m l hi
  have hD := ds_all hed hm.2
  have hDm := fun a ha => (dsF_is hed hm.2 (a := a) ha).2
  have hsame := fun a b ha hb => comp_same hed hm.2 (a := a) (b := b) ha hb
  have hcs := fun i hi => cpF_spec hed hm.2 (i := i) hi
  have hsym := fun a b ha hb => isD_symm hD a b ha hb
  have hdS : ∀ k, dmS m l (k + 1) = mxF (dmS m l k) (dsF m l k) := fun _ => rfl
  generalize cpF m l = C at *
  generalize sdF m l m = RD at *
  have hG0 : dmS m l 0 = 0 := rfl
  generalize dmS m l = G at *
  refine Runs.mk tabOK Try.call7 Try.func7 rfl Try.ntmps7 Try.results7 rfl ?_
  (repeat' (first
    | (intro Q h; refine h ?_; clear h Q)
    | (with_reducible refine bcase_true ?_)
    | (with_reducible refine bcase_false ?_)
    | (refine bcase_mk (fun hb => ?_) (fun hb => ?_) <;> (try simp only [nS, nT, eq_self, reduceCtorEq] at hb) <;> (try (exfalso; (first | omega | (rw [hN] at hb; cases hb) | exact hb (decide_eq_decide.2 hz0) | exact hb (by rw [hX', hY']; exact decide_eq_decide.2 hs3)); done)))
    | refine nil_mk (fun hz => ?_) ?_
    | refine cp_full (by first | with_reducible rfl | omega | ((try simp only [wS]); omega) | rfl) (by first | with_reducible rfl | omega | ((try simp only [wS]); omega) | rfl) (by first | with_reducible rfl | omega | ((try simp only [wS]); omega) | rfl) ?_
    | refine draw_mk (by decide +kernel) ?_
    | refine seq_go ?_
    | refine And.intro (by first | omega | ((try simp only [wS]); omega) | rfl | decide) ?_
    | ((first | apply call1 (hlong) | apply calld1 (hlong)); (focus (iterate 2 (all_goals (repeat' (first | exact sub_dead | exact fam_same rfl rfl rfl | exact fam_rd rfl rfl | exact fam_ren rfl rfl rfl | exact row_nm rfl rfl | (refine row_nm rfl ?_) | exact sub_map rfl | exact map_same rfl | exact map_updc rfl | refine map_updc ?_ | refine map_same ?_ | refine map_mk ?_ ?_ | exact subL_nil | exact trivial | (intro Q h; refine h ?_; clear h Q) | refine And.intro ?_ ?_ | refine subL_cons ?_ ?_ | refine sub_agg ?_ | refine sub_tup ?_ | refine sub_fn ?_ | refine sub_bfn ?_ ?_ | refine var_mk ?_ | refine rd_var ?_ rfl | refine rd_rd ?_ | exact sub_ptr rfl rfl | exact sub_sl rfl rfl rfl | exact sub_refl_val _ _ | exact sub_sb rfl | exact sub_sbl rfl | exact row_same rfl rfl rfl | exact row_ren rfl rfl rfl | exact sub_nil rfl | ((first | refine sub_int ?_ | refine sub_sl rfl rfl ?_ | refine sub_nil ?_ | refine virt_mk ?_ | show (_ : Nat) = _); first | with_reducible rfl | omega | ((try simp only [wS]); omega) | rfl) | apply row_app1 | apply row_app2 | apply row_app1r | refine cells_succ ?_ ?_ | exact cell0 | with_reducible rfl | (refine And.left (b := True) ⟨?_, True.intro⟩; assumption) | refine sub_int ?_ | refine sub_sb ?_ | refine sub_sbl ?_ | refine sub_sl rfl rfl ?_ | (apply row_lit rfl; (focus (refine cells_succ ?_ ?_))) | refine row_same rfl ?_ ?_ | refine row_ren rfl ?_ ?_))))); (try (any_goals (first | (apply nodup_mk; rfl) | (apply nodup_mk2; rfl) | (apply nodup_mk3; rfl)))))
    | ((first | apply call1 (hck) | apply calld1 (hck)); (focus (iterate 2 (all_goals (repeat' (first | exact sub_dead | exact fam_same rfl rfl rfl | exact fam_rd rfl rfl | exact fam_ren rfl rfl rfl | exact row_nm rfl rfl | (refine row_nm rfl ?_) | exact sub_map rfl | exact map_same rfl | exact map_updc rfl | refine map_updc ?_ | refine map_same ?_ | refine map_mk ?_ ?_ | exact subL_nil | exact trivial | (intro Q h; refine h ?_; clear h Q) | refine And.intro ?_ ?_ | refine subL_cons ?_ ?_ | refine sub_agg ?_ | refine sub_tup ?_ | refine sub_fn ?_ | refine sub_bfn ?_ ?_ | refine var_mk ?_ | refine rd_var ?_ rfl | refine rd_rd ?_ | exact sub_ptr rfl rfl | exact sub_sl rfl rfl rfl | exact sub_refl_val _ _ | exact sub_sb rfl | exact sub_sbl rfl | exact row_same rfl rfl rfl | exact row_ren rfl rfl rfl | exact sub_nil rfl | ((first | refine sub_int ?_ | refine sub_sl rfl rfl ?_ | refine sub_nil ?_ | refine virt_mk ?_ | show (_ : Nat) = _); first | with_reducible rfl | omega | ((try simp only [wS]); omega) | rfl) | apply row_app1 | apply row_app2 | apply row_app1r | refine cells_succ ?_ ?_ | exact cell0 | with_reducible rfl | (refine And.left (b := True) ⟨?_, True.intro⟩; assumption) | refine sub_int ?_ | refine sub_sb ?_ | refine sub_sbl ?_ | refine sub_sl rfl rfl ?_ | (apply row_lit rfl; (focus (refine cells_succ ?_ ?_))) | refine row_same rfl ?_ ?_ | refine row_ren rfl ?_ ?_))))); (try (any_goals (first | (apply nodup_mk; rfl) | (apply nodup_mk2; rfl) | (apply nodup_mk3; rfl)))))
    | ((first | apply call1 (hsg) | apply calld1 (hsg)); (focus ((iterate 2 (all_goals (repeat' (first | exact sub_dead | exact fam_same rfl rfl rfl | exact fam_rd rfl rfl | exact fam_ren rfl rfl rfl | exact row_nm rfl rfl | (refine row_nm rfl ?_) | exact sub_map rfl | exact map_same rfl | exact map_updc rfl | refine map_updc ?_ | refine map_same ?_ | refine map_mk ?_ ?_ | exact subL_nil | exact trivial | (intro Q h; refine h ?_; clear h Q) | refine And.intro ?_ ?_ | refine subL_cons ?_ ?_ | refine sub_agg ?_ | refine sub_tup ?_ | refine sub_fn ?_ | refine sub_bfn ?_ ?_ | refine var_mk ?_ | refine rd_var ?_ rfl | refine rd_rd ?_ | exact sub_ptr rfl rfl | exact sub_sl rfl rfl rfl | exact sub_refl_val _ _ | exact sub_sb rfl | exact sub_sbl rfl | exact row_same rfl rfl rfl | exact row_ren rfl rfl rfl | exact sub_nil rfl | ((first | refine sub_int ?_ | refine sub_sl rfl rfl ?_ | refine sub_nil ?_ | refine virt_mk ?_ | show (_ : Nat) = _); first | with_reducible rfl | omega | ((try simp only [wS]); omega) | rfl) | apply row_app1 | apply row_app2 | apply row_app1r | refine cells_succ ?_ ?_ | exact cell0 | with_reducible rfl | (refine And.left (b := True) ⟨?_, True.intro⟩; assumption) | refine sub_int ?_ | refine sub_sb ?_ | refine sub_sbl ?_ | refine sub_sl rfl rfl ?_ | (apply row_lit rfl; (focus (refine cells_succ ?_ ?_))) | refine row_same rfl ?_ ?_ | refine row_ren rfl ?_ ?_)))); done)); (try (any_goals (first | (apply nodup_mk; rfl) | (apply nodup_mk2; rfl) | (apply nodup_mk3; rfl)))))
    | ((first | apply call1 (hcp) | apply calld1 (hcp)); (focus ((iterate 2 (all_goals (repeat' (first | exact sub_dead | exact fam_same rfl rfl rfl | exact fam_rd rfl rfl | exact fam_ren rfl rfl rfl | exact row_nm rfl rfl | (refine row_nm rfl ?_) | exact sub_map rfl | exact map_same rfl | exact map_updc rfl | refine map_updc ?_ | refine map_same ?_ | refine map_mk ?_ ?_ | exact subL_nil | exact trivial | (intro Q h; refine h ?_; clear h Q) | refine And.intro ?_ ?_ | refine subL_cons ?_ ?_ | refine sub_agg ?_ | refine sub_tup ?_ | refine sub_fn ?_ | refine sub_bfn ?_ ?_ | refine var_mk ?_ | refine rd_var ?_ rfl | refine rd_rd ?_ | exact sub_ptr rfl rfl | exact sub_sl rfl rfl rfl | exact sub_refl_val _ _ | exact sub_sb rfl | exact sub_sbl rfl | exact row_same rfl rfl rfl | exact row_ren rfl rfl rfl | exact sub_nil rfl | ((first | refine sub_int ?_ | refine sub_sl rfl rfl ?_ | refine sub_nil ?_ | refine virt_mk ?_ | show (_ : Nat) = _); first | with_reducible rfl | omega | ((try simp only [wS]); omega) | rfl) | apply row_app1 | apply row_app2 | apply row_app1r | refine cells_succ ?_ ?_ | exact cell0 | with_reducible rfl | (refine And.left (b := True) ⟨?_, True.intro⟩; assumption) | refine sub_int ?_ | refine sub_sb ?_ | refine sub_sbl ?_ | refine sub_sl rfl rfl ?_ | (apply row_lit rfl; (focus (refine cells_succ ?_ ?_))) | refine row_same rfl ?_ ?_ | refine row_ren rfl ?_ ?_)))); done)); (try (any_goals (first | (apply nodup_mk; rfl) | (apply nodup_mk2; rfl) | (apply nodup_mk3; rfl)))))
    | (fail)
    | omega))
  refine loop_inv (σ := Nat) (fun x => x ≤ m) (fun x => ⟨[(1, .ptr 1 2 0 0), (3, .sl 2 1 0 m none), (5, .sl 3 1 0 m none), (6, .val (.int .i64 (G x))), (40, .val (.int .i64 m)), (41, .val (.int .i64 x))], [gB l, .var [.val (.int .i64 m), .sl 0 4 0 l.length cap], sdB m m RD, iB true C]⟩) (fun x => m - x) (0) ?_ ?_ ?_
  · omega
  · (apply le_mk [some 0, some 1, some 2, some 3]; (focus (iterate 2 (all_goals (repeat' (first | exact sub_dead | exact fam_same rfl rfl rfl | exact fam_rd rfl rfl | exact fam_ren rfl rfl rfl | exact row_nm rfl rfl | (refine row_nm rfl ?_) | exact sub_map rfl | exact map_same rfl | exact map_updc rfl | refine map_updc ?_ | refine map_same ?_ | refine map_mk ?_ ?_ | exact subL_nil | exact trivial | (intro Q h; refine h ?_; clear h Q) | refine And.intro ?_ ?_ | refine subL_cons ?_ ?_ | refine sub_agg ?_ | refine sub_tup ?_ | refine sub_fn ?_ | refine sub_bfn ?_ ?_ | refine var_mk ?_ | refine rd_var ?_ rfl | refine rd_rd ?_ | exact sub_ptr rfl rfl | exact sub_sl rfl rfl rfl | exact sub_refl_val _ _ | exact sub_sb rfl | exact sub_sbl rfl | exact row_same rfl rfl rfl | exact row_ren rfl rfl rfl | exact sub_nil rfl | ((first | refine sub_int ?_ | refine sub_sl rfl rfl ?_ | refine sub_nil ?_ | refine virt_mk ?_ | show (_ : Nat) = _); first | with_reducible rfl | omega | ((try simp only [wS]); omega) | rfl) | apply row_app1 | apply row_app2 | apply row_app1r | refine cells_succ ?_ ?_ | exact cell0 | with_reducible rfl | (refine And.left (b := True) ⟨?_, True.intro⟩; assumption) | refine sub_int ?_ | refine sub_sb ?_ | refine sub_sbl ?_ | refine sub_sl rfl rfl ?_ | (apply row_lit rfl; (focus (refine cells_succ ?_ ?_))) | refine row_same rfl ?_ ?_ | refine row_ren rfl ?_ ?_))))); (any_goals (apply okIx_mk; rfl)))
    all_goals (exact hG0.symm)
  rintro a ha
  by_cases ham : a < m
  · have hza : 0 + Int.toNat (a : Int) = a := by omega
    have hDa := hD a ham
    have hRDa := hRD a ham
    have hrow : (famF intC 0 RD (0 + Int.toNat (a : Int))).1 = m := by rw [famF_fst, hza, hRDa, hDa.len]
    have hnb := nbF_spec (n := m) (D := dsF m l a)
    (repeat' (first
    | (intro Q h; refine h ?_; clear h Q)
    | (with_reducible refine bcase_true ?_)
    | (with_reducible refine bcase_false ?_)
    | (refine bcase_mk (fun hb => ?_) (fun hb => ?_) <;> (try simp only [nS, nT, eq_self, reduceCtorEq] at hb) <;> (try (exfalso; (first | omega | (rw [hN] at hb; cases hb) | exact hb (decide_eq_decide.2 hz0) | exact hb (by rw [hX', hY']; exact decide_eq_decide.2 hs3)); done)))
    | refine nil_mk (fun hz => ?_) ?_
    | refine cp_full (by first | with_reducible rfl | omega | ((try simp only [wS]); omega) | rfl) (by first | with_reducible rfl | omega | ((try simp only [wS]); omega) | rfl) (by first | with_reducible rfl | omega | ((try simp only [wS]); omega) | rfl) ?_
    | refine draw_mk (by decide +kernel) ?_
    | refine seq_go ?_
    | refine And.intro (by first | omega | ((try simp only [wS]); omega) | rfl | decide) ?_
    | (fail)
    | omega))
    refine loop_inv (σ := Nat) (fun x => x ≤ l.length) (fun x => ⟨[(1, .ptr 1 2 0 0), (3, .sl 2 1 0 m none), (5, .sl 3 1 0 m none), (6, .val (.int .i64 (G a))), (7, .val (.int .i64 a)), (8, .sl 4 1 0 m none), (40, .val (.int .i64 m)), (41, .val (.int .i64 a)), (51, .sl 0 4 0 l.length cap), (52, .val (.int .i64 l.length)), (53, .val (.int .i64 x))], [gB l, .var [.val (.int .i64 m), .sl 0 4 0 l.length cap], sdB m m RD, iB true C, wB true 4 (nbF (dsF m l a) ((List.replicate m false).set a true) (l.take x))]⟩) (fun x => l.length - x) (0) ?_ ?_ ?_
    · omega
    · (apply le_mk [some 0, some 1, some 2, some 3, some 4]; (focus (iterate 2 (all_goals (repeat' (first | exact sub_dead | exact fam_same rfl rfl rfl | exact fam_rd rfl rfl | exact fam_ren rfl rfl rfl | exact row_nm rfl rfl | (refine row_nm rfl ?_) | exact sub_map rfl | exact map_same rfl | exact map_updc rfl | refine map_updc ?_ | refine map_same ?_ | refine map_mk ?_ ?_ | exact subL_nil | exact trivial | (intro Q h; refine h ?_; clear h Q) | refine And.intro ?_ ?_ | refine subL_cons ?_ ?_ | refine sub_agg ?_ | refine sub_tup ?_ | refine sub_fn ?_ | refine sub_bfn ?_ ?_ | refine var_mk ?_ | refine rd_var ?_ rfl | refine rd_rd ?_ | exact sub_ptr rfl rfl | exact sub_sl rfl rfl rfl | exact sub_refl_val _ _ | exact sub_sb rfl | exact sub_sbl rfl | exact row_same rfl rfl rfl | exact row_ren rfl rfl rfl | exact sub_nil rfl | ((first | refine sub_int ?_ | refine sub_sl rfl rfl ?_ | refine sub_nil ?_ | refine virt_mk ?_ | show (_ : Nat) = _); first | with_reducible rfl | omega | ((try simp only [wS]); omega) | rfl) | apply row_app1 | apply row_app2 | apply row_app1r | refine cells_succ ?_ ?_ | exact cell0 | with_reducible rfl | (refine And.left (b := True) ⟨?_, True.intro⟩; assumption) | refine sub_int ?_ | refine sub_sb ?_ | refine sub_sbl ?_ | refine sub_sl rfl rfl ?_ | (apply row_lit rfl; (focus (refine cells_succ ?_ ?_))) | refine row_same rfl ?_ ?_ | refine row_ren rfl ?_ ?_))))); (any_goals (apply okIx_mk; rfl)))
      all_goals (show BSub _ (wB true 4 ((List.replicate m false).set a true)) _; rw [show (List.replicate m false).set a true = (List.replicate m false).set (0 + Int.toNat (a : Int)) true by rw [hza]]; refine bsub_arr (fun _ => rfl) (by simp) (set_pt (subL_cons (.inr rfl) subL_nil) rfl (by simp; omega) ?_))
      all_goals (intro q hq j hj; simp only [List.length_set, List.length_replicate] at hq; obtain rfl : j = 0 := by omega)
      all_goals (show sub _ (.sb ((List.replicate m false).getD q false)) _; rw [show (List.replicate m false).getD q false = false by rw [List.getD_eq_getElem?_getD, List.getElem?_replicate]; split <;> rfl])
      all_goals (exact .inr rfl)
    rintro y hy
    have hzy : 0 + Int.toNat (y : Int) = y := by omega
    by_cases hyl : y < l.length
    · have he := hed _ (getD_mem l y ed0 hyl)
      have hE' : l.getD y ed0 = l.getD (0 + Int.toNat (y : Int)) ed0 := by rw [hzy]
      have hNS : nbF (dsF m l a) ((List.replicate m false).set a true) (l.take (y + 1)) = nbS (dsF m l a) (nbF (dsF m l a) ((List.replicate m false).set a true) (l.take y)) (l.getD y ed0) := foldl_take _ _ l y ed0 hyl
      have hNl := (hnb (l.take y) ((List.replicate m false).set a true) (fun e he => hed e (List.mem_of_mem_take he)) (by simp)).1
      generalize nbF (dsF m l a) ((List.replicate m false).set a true) (l.take y) = N at *
      rw [hE'] at he hNS
      obtain ⟨hea, heb, hab⟩ := he
      have hAdj : Adj l (l.getD (0 + Int.toNat (y : Int)) ed0).a.toNat (((l.getD (0 + Int.toNat (y : Int)) ed0).b.toNat : Nat) : Int) := ⟨_, hE' ▸ getD_mem l y ed0 hyl, .inl ⟨by omega, by omega⟩⟩
      have hx1 := hDa.low (l.getD (0 + Int.toNat (y : Int)) ed0).a.toNat (by omega)
      have hy1 := hDa.low (l.getD (0 + Int.toNat (y : Int)) ed0).b.toNat (by omega)
      have hx2 := hDm a ham (l.getD (0 + Int.toNat (y : Int)) ed0).a.toNat (by omega)
      have hy2 := hDm a ham (l.getD (0 + Int.toNat (y : Int)) ed0).b.toNat (by omega)
      have hxy := hDa.edge (l.getD (0 + Int.toNat (y : Int)) ed0).a.toNat (by omega) (l.getD (0 + Int.toNat (y : Int)) ed0).b.toNat (by omega) hAdj
      have hyx := hDa.edge (l.getD (0 + Int.toNat (y : Int)) ed0).b.toNat (by omega) (l.getD (0 + Int.toNat (y : Int)) ed0).a.toNat (by omega) hAdj.symm
      have hX' : (RD.getD (0 + Int.toNat (a : Int)) []).getD (0 + Int.toNat (l.getD (0 + Int.toNat (y : Int)) ed0).a) 0 = (dsF m l a).getD (l.getD (0 + Int.toNat (y : Int)) ed0).a.toNat 0 := by rw [hza, hRDa, Nat.zero_add]
      have hY' : (RD.getD (0 + Int.toNat (a : Int)) []).getD (0 + Int.toNat (l.getD (0 + Int.toNat (y : Int)) ed0).b) 0 = (dsF m l a).getD (l.getD (0 + Int.toNat (y : Int)) ed0).b.toNat 0 := by rw [hza, hRDa, Nat.zero_add]
      rw [nbS, nb1, nb1] at hNS
      generalize (dsF m l a).getD (l.getD (0 + Int.toNat (y : Int)) ed0).a.toNat 0 = X at *
      generalize (dsF m l a).getD (l.getD (0 + Int.toNat (y : Int)) ed0).b.toNat 0 = Y at *
      have hw1 : IntKind.i64.wrap (X - Y) = X - Y := cwrap (by omega) (by omega)
      have hw2 : IntKind.i64.wrap (Y - X) = Y - X := cwrap (by omega) (by omega)
      have hw3 : IntKind.i64.wrap (X - 1) = X - 1 := cwrap (by omega) (by omega)
      have hw4 : IntKind.i64.wrap (Y - 1) = Y - 1 := cwrap (by omega) (by omega)
      have hx3 : X - Y ≤ 1 ∧ Y - X ≤ 1 := by
        by_cases h : 0 ≤ X
        · have := hxy h; have := hyx this.1; omega
        · by_cases h' : 0 ≤ Y
          · have := hyx h'; omega
          · omega
      have hs3 : X < 0 ↔ Y < 0 := by
        by_cases h : 0 ≤ X
        · have := hxy h; omega
        · by_cases h' : 0 ≤ Y
          · have := hyx h'; omega
          · omega
      have hw1' : IntKind.i64.wrap ((RD.getD (0 + Int.toNat (a : Int)) []).getD (0 + Int.toNat (l.getD (0 + Int.toNat (y : Int)) ed0).a) 0 - (RD.getD (0 + Int.toNat (a : Int)) []).getD (0 + Int.toNat (l.getD (0 + Int.toNat (y : Int)) ed0).b) 0) = X - Y := by rw [hX', hY']; exact hw1
      have hw2' : IntKind.i64.wrap ((RD.getD (0 + Int.toNat (a : Int)) []).getD (0 + Int.toNat (l.getD (0 + Int.toNat (y : Int)) ed0).b) 0 - (RD.getD (0 + Int.toNat (a : Int)) []).getD (0 + Int.toNat (l.getD (0 + Int.toNat (y : Int)) ed0).a) 0) = Y - X := by rw [hX', hY']; exact hw2
      clear hxy hyx hsg hdg hcp hck hlong hnb hAdj hDa hRDa hRD hD hDm hsame hcs hsym hdS hed hc hG0 ecp edm
      (repeat' (first
    | (intro Q h; refine h ?_; clear h Q)
    | (with_reducible refine bcase_true ?_)
    | (with_reducible refine bcase_false ?_)
    | (refine bcase_mk (fun hb => ?_) (fun hb => ?_) <;> (try simp only [nS, nT, eq_self, reduceCtorEq] at hb) <;> (try (exfalso; (first | omega | (rw [hN] at hb; cases hb) | exact hb (decide_eq_decide.2 hz0) | exact hb (by rw [hX', hY']; exact decide_eq_decide.2 hs3)); done)))
    | refine nil_mk (fun hz => ?_) ?_
    | refine cp_full (by first | with_reducible rfl | omega | ((try simp only [wS]); omega) | rfl) (by first | with_reducible rfl | omega | ((try simp only [wS]); omega) | rfl) (by first | with_reducible rfl | omega | ((try simp only [wS]); omega) | rfl) ?_
    | refine draw_mk (by decide +kernel) ?_
    | refine And.intro (by first | omega | ((try simp only [wS]); omega) | rfl | decide) ?_
    | (fail)
    | omega))
      refine seq_go ?_
      (repeat' (first
    | (intro Q h; refine h ?_; clear h Q)
    | (with_reducible refine bcase_true ?_)
    | (with_reducible refine bcase_false ?_)
    | (refine bcase_mk (fun hb => ?_) (fun hb => ?_) <;> (try simp only [nS, nT, eq_self, reduceCtorEq] at hb) <;> (try (exfalso; (first | omega | (rw [hN] at hb; cases hb) | exact hb (decide_eq_decide.2 hz0) | exact hb (by rw [hX', hY']; exact decide_eq_decide.2 hs3)); done)))
    | refine nil_mk (fun hz => ?_) ?_
    | refine cp_full (by first | with_reducible rfl | omega | ((try simp only [wS]); omega) | rfl) (by first | with_reducible rfl | omega | ((try simp only [wS]); omega) | rfl) (by first | with_reducible rfl | omega | ((try simp only [wS]); omega) | rfl) ?_
    | refine draw_mk (by decide +kernel) ?_
    | refine And.intro (by first | omega | ((try simp only [wS]); omega) | rfl | decide) ?_
    | (fail)
    | omega))
      refine seq_go ?_
      (repeat' (first
    | (intro Q h; refine h ?_; clear h Q)
    | (with_reducible refine bcase_true ?_)
    | (with_reducible refine bcase_false ?_)
    | (refine bcase_mk (fun hb => ?_) (fun hb => ?_) <;> (try simp only [nS, nT, eq_self, reduceCtorEq] at hb) <;> (try (exfalso; (first | omega | (rw [hN] at hb; cases hb) | exact hb (decide_eq_decide.2 hz0) | exact hb (by rw [hX', hY']; exact decide_eq_decide.2 hs3)); done)))
    | refine nil_mk (fun hz => ?_) ?_
    | refine cp_full (by first | with_reducible rfl | omega | ((try simp only [wS]); omega) | rfl) (by first | with_reducible rfl | omega | ((try simp only [wS]); omega) | rfl) (by first | with_reducible rfl | omega | ((try simp only [wS]); omega) | rfl) ?_
    | refine draw_mk (by decide +kernel) ?_
    | refine And.intro (by first | omega | ((try simp only [wS]); omega) | rfl | decide) ?_
    | (fail)
    | omega))
      refine seq_join (σ := Unit) (fun x => True) (fun x => ⟨[(1, .ptr 1 2 0 0), (3, .sl 2 1 0 m none), (5, .sl 3 1 0 m none), (6, .val (.int .i64 (G a))), (7, .val (.int .i64 a)), (8, .sl 4 1 0 m none), (10, .ptr 5 4 0 0), (11, .val (.int .i64 X)), (12, .val (.int .i64 Y)), (40, .val (.int .i64 m)), (41, .val (.int .i64 a)), (51, .sl 0 4 0 l.length cap), (52, .val (.int .i64 l.length)), (53, .val (.int .i64 y))], [gB l, .var [.val (.int .i64 m), .sl 0 4 0 l.length cap], sdB m m RD, iB true C, wB true 4 N, .var [.val (.int .i64 (l.getD (0 + Int.toNat (y : Int)) ed0).a), .val (.int .i64 (l.getD (0 + Int.toNat (y : Int)) ed0).pa), .val (.int .i64 (l.getD (0 + Int.toNat (y : Int)) ed0).b), .val (.int .i64 (l.getD (0 + Int.toNat (y : Int)) ed0).pb)]]⟩) ?_ ?_
      · (repeat' (first
    | (intro Q h; refine h ?_; clear h Q)
    | (with_reducible refine bcase_true ?_)
    | (with_reducible refine bcase_false ?_)
    | (refine bcase_mk (fun hb => ?_) (fun hb => ?_) <;> (try simp only [nS, nT, eq_self, reduceCtorEq] at hb) <;> (try (exfalso; (first | omega | (rw [hN] at hb; cases hb) | exact hb (decide_eq_decide.2 hz0) | exact hb (by rw [hX', hY']; exact decide_eq_decide.2 hs3)); done)))
    | refine nil_mk (fun hz => ?_) ?_
    | refine cp_full (by first | with_reducible rfl | omega | ((try simp only [wS]); omega) | rfl) (by first | with_reducible rfl | omega | ((try simp only [wS]); omega) | rfl) (by first | with_reducible rfl | omega | ((try simp only [wS]); omega) | rfl) ?_
    | refine draw_mk (by decide +kernel) ?_
    | refine seq_go ?_
    | refine And.intro (by first | omega | ((try simp only [wS]); omega) | rfl | decide) ?_
    | (apply join_sub (Subtype.mk () _); (focus (apply le_mk [some 0, some 1, some 2, some 3, some 4, some 5]; (focus (iterate 2 (all_goals (repeat' (first | exact sub_dead | exact fam_same rfl rfl rfl | exact fam_rd rfl rfl | exact fam_ren rfl rfl rfl | exact row_nm rfl rfl | (refine row_nm rfl ?_) | exact sub_map rfl | exact map_same rfl | exact map_updc rfl | refine map_updc ?_ | refine map_same ?_ | refine map_mk ?_ ?_ | exact subL_nil | exact trivial | (intro Q h; refine h ?_; clear h Q) | refine And.intro ?_ ?_ | refine subL_cons ?_ ?_ | refine sub_agg ?_ | refine sub_tup ?_ | refine sub_fn ?_ | refine sub_bfn ?_ ?_ | refine var_mk ?_ | refine rd_var ?_ rfl | refine rd_rd ?_ | exact sub_ptr rfl rfl | exact sub_sl rfl rfl rfl | exact sub_refl_val _ _ | exact sub_sb rfl | exact sub_sbl rfl | exact row_same rfl rfl rfl | exact row_ren rfl rfl rfl | exact sub_nil rfl | ((first | refine sub_int ?_ | refine sub_sl rfl rfl ?_ | refine sub_nil ?_ | refine virt_mk ?_ | show (_ : Nat) = _); first | with_reducible rfl | omega | ((try simp only [wS]); omega) | rfl) | apply row_app1 | apply row_app2 | apply row_app1r | refine cells_succ ?_ ?_ | exact cell0 | with_reducible rfl | (refine And.left (b := True) ⟨?_, True.intro⟩; assumption) | refine sub_int ?_ | refine sub_sb ?_ | refine sub_sbl ?_ | refine sub_sl rfl rfl ?_ | (apply row_lit rfl; (focus (refine cells_succ ?_ ?_))) | refine row_same rfl ?_ ?_ | refine row_ren rfl ?_ ?_))))); (any_goals (apply okIx_mk; rfl)))); (all_goals (try (first | omega | (simp only; omega)))))
    | omega))
        all_goals (first | exact hX' | exact hY' | (exfalso; rename_i hb; exact hb (by rw [hX', hY']; exact decide_eq_decide.2 hs3)) | fail)
      rintro ⟨⟩ _
      clear hX' hY' hw1 hw2 hw1' hw2'
      have hNX : nbF (dsF m l a) ((List.replicate m false).set a true) (l.take (y + 1)) = (N.set (0 + Int.toNat (l.getD (0 + Int.toNat (y : Int)) ed0).a) (N.getD (0 + Int.toNat (l.getD (0 + Int.toNat (y : Int)) ed0).a) false || decide (Y = X - 1))).set (0 + Int.toNat (l.getD (0 + Int.toNat (y : Int)) ed0).b) ((N.set (0 + Int.toNat (l.getD (0 + Int.toNat (y : Int)) ed0).a) (N.getD (0 + Int.toNat (l.getD (0 + Int.toNat (y : Int)) ed0).a) false || decide (Y = X - 1))).getD (0 + Int.toNat (l.getD (0 + Int.toNat (y : Int)) ed0).b) false || decide (X = Y - 1)) := by
        rw [hNS]; simp only [Nat.zero_add]
      clear hNS
      (repeat' (first
    | (intro Q h; refine h ?_; clear h Q)
    | (with_reducible refine bcase_true ?_)
    | (with_reducible refine bcase_false ?_)
    | (refine bcase_mk (fun hb => ?_) (fun hb => ?_) <;> (try simp only [nS, nT, eq_self, reduceCtorEq] at hb) <;> (try (exfalso; (first | omega | (rw [hN] at hb; cases hb) | exact hb (decide_eq_decide.2 hz0) | exact hb (by rw [hX', hY']; exact decide_eq_decide.2 hs3)); done)))
    | refine nil_mk (fun hz => ?_) ?_
    | refine cp_full (by first | with_reducible rfl | omega | ((try simp only [wS]); omega) | rfl) (by first | with_reducible rfl | omega | ((try simp only [wS]); omega) | rfl) (by first | with_reducible rfl | omega | ((try simp only [wS]); omega) | rfl) ?_
    | refine draw_mk (by decide +kernel) ?_
    | refine And.intro (by first | omega | ((try simp only [wS]); omega) | rfl | decide) ?_
    | (fail)
    | omega))
      refine seq_join (σ := Unit) (fun x => True) (fun x => ⟨[(1, .ptr 1 2 0 0), (3, .sl 2 1 0 m none), (5, .sl 3 1 0 m none), (6, .val (.int .i64 (G a))), (7, .val (.int .i64 a)), (8, .sl 4 1 0 m none), (10, .ptr 5 4 0 0), (11, .val (.int .i64 X)), (12, .val (.int .i64 Y)), (40, .val (.int .i64 m)), (41, .val (.int .i64 a)), (51, .sl 0 4 0 l.length cap), (52, .val (.int .i64 l.length)), (53, .val (.int .i64 y))], [gB l, .var [.val (.int .i64 m), .sl 0 4 0 l.length cap], sdB m m RD, iB true C, wB true 4 (N.set (0 + Int.toNat (l.getD (0 + Int.toNat (y : Int)) ed0).a) (N.getD (0 + Int.toNat (l.getD (0 + Int.toNat (y : Int)) ed0).a) false || decide (Y = X - 1))), .var [.val (.int .i64 (l.getD (0 + Int.toNat (y : Int)) ed0).a), .val (.int .i64 (l.getD (0 + Int.toNat (y : Int)) ed0).pa), .val (.int .i64 (l.getD (0 + Int.toNat (y : Int)) ed0).b), .val (.int .i64 (l.getD (0 + Int.toNat (y : Int)) ed0).pb)]]⟩) ?_ ?_
      · (repeat' (first
    | (intro Q h; refine h ?_; clear h Q)
    | (with_reducible refine bcase_true ?_)
    | (with_reducible refine bcase_false ?_)
    | (refine bcase_mk (fun hb => ?_) (fun hb => ?_) <;> (try simp only [nS, nT, eq_self, reduceCtorEq] at hb) <;> (try (exfalso; (first | omega | (rw [hN] at hb; cases hb) | exact hb (decide_eq_decide.2 hz0) | exact hb (by rw [hX', hY']; exact decide_eq_decide.2 hs3)); done)))
    | refine nil_mk (fun hz => ?_) ?_
    | refine cp_full (by first | with_reducible rfl | omega | ((try simp only [wS]); omega) | rfl) (by first | with_reducible rfl | omega | ((try simp only [wS]); omega) | rfl) (by first | with_reducible rfl | omega | ((try simp only [wS]); omega) | rfl) ?_
    | refine draw_mk (by decide +kernel) ?_
    | refine seq_go ?_
    | refine And.intro (by first | omega | ((try simp only [wS]); omega) | rfl | decide) ?_
    | (apply join_sub (Subtype.mk () _); (focus (apply le_mk [some 0, some 1, some 2, some 3, some 4, some 5]; (focus (iterate 2 (all_goals (repeat' (first | exact sub_dead | exact fam_same rfl rfl rfl | exact fam_rd rfl rfl | exact fam_ren rfl rfl rfl | exact row_nm rfl rfl | (refine row_nm rfl ?_) | exact sub_map rfl | exact map_same rfl | exact map_updc rfl | refine map_updc ?_ | refine map_same ?_ | refine map_mk ?_ ?_ | exact subL_nil | exact trivial | (intro Q h; refine h ?_; clear h Q) | refine And.intro ?_ ?_ | refine subL_cons ?_ ?_ | refine sub_agg ?_ | refine sub_tup ?_ | refine sub_fn ?_ | refine sub_bfn ?_ ?_ | refine var_mk ?_ | refine rd_var ?_ rfl | refine rd_rd ?_ | exact sub_ptr rfl rfl | exact sub_sl rfl rfl rfl | exact sub_refl_val _ _ | exact sub_sb rfl | exact sub_sbl rfl | exact row_same rfl rfl rfl | exact row_ren rfl rfl rfl | exact sub_nil rfl | ((first | refine sub_int ?_ | refine sub_sl rfl rfl ?_ | refine sub_nil ?_ | refine virt_mk ?_ | show (_ : Nat) = _); first | with_reducible rfl | omega | ((try simp only [wS]); omega) | rfl) | apply row_app1 | apply row_app2 | apply row_app1r | refine cells_succ ?_ ?_ | exact cell0 | with_reducible rfl | (refine And.left (b := True) ⟨?_, True.intro⟩; assumption) | refine sub_int ?_ | refine sub_sb ?_ | refine sub_sbl ?_ | refine sub_sl rfl rfl ?_ | (apply row_lit rfl; (focus (refine cells_succ ?_ ?_))) | refine row_same rfl ?_ ?_ | refine row_ren rfl ?_ ?_))))); (any_goals (apply okIx_mk; rfl)))); (all_goals (try (first | omega | (simp only; omega)))))
    | omega))
        all_goals (first | (rw [hb, Bool.true_or]) | (rename_i hq; rw [hq, Bool.false_or, decide_eq_true (show Y = X - 1 by omega)]) | (rename_i hq; rw [hq, Bool.false_or, decide_eq_false (show ¬ Y = X - 1 by omega)]))
        all_goals (refine bsub_arr (fun _ => rfl) (by rw [List.length_set]) (set_pt (subL_cons (by first | exact .inr rfl | exact .inl rfl) subL_nil) rfl (by omega) (fun q hq j hj => sub_nth FlatC.flat _ _ j)))
      rintro ⟨⟩ _
      have hN1l : (N.set (0 + Int.toNat (l.getD (0 + Int.toNat (y : Int)) ed0).a) (N.getD (0 + Int.toNat (l.getD (0 + Int.toNat (y : Int)) ed0).a) false || decide (Y = X - 1))).length = m := by rw [List.length_set, hNl]
      generalize (N.set (0 + Int.toNat (l.getD (0 + Int.toNat (y : Int)) ed0).a) (N.getD (0 + Int.toNat (l.getD (0 + Int.toNat (y : Int)) ed0).a) false || decide (Y = X - 1))) = N1 at *
      (repeat' (first
    | (intro Q h; refine h ?_; clear h Q)
    | (with_reducible refine bcase_true ?_)
    | (with_reducible refine bcase_false ?_)
    | (refine bcase_mk (fun hb => ?_) (fun hb => ?_) <;> (try simp only [nS, nT, eq_self, reduceCtorEq] at hb) <;> (try (exfalso; (first | omega | (rw [hN] at hb; cases hb) | exact hb (decide_eq_decide.2 hz0) | exact hb (by rw [hX', hY']; exact decide_eq_decide.2 hs3)); done)))
    | refine nil_mk (fun hz => ?_) ?_
    | refine cp_full (by first | with_reducible rfl | omega | ((try simp only [wS]); omega) | rfl) (by first | with_reducible rfl | omega | ((try simp only [wS]); omega) | rfl) (by first | with_reducible rfl | omega | ((try simp only [wS]); omega) | rfl) ?_
    | refine draw_mk (by decide +kernel) ?_
    | refine seq_go ?_
    | refine And.intro (by first | omega | ((try simp only [wS]); omega) | rfl | decide) ?_
    | (apply next_sub (Subtype.mk (y + 1) (by first | omega | (simp only; omega))); (focus (rw [hNX]; apply le_mk [some 0, some 1, some 2, some 3, some 4]; (focus (iterate 2 (all_goals (repeat' (first | exact sub_dead | exact fam_same rfl rfl rfl | exact fam_rd rfl rfl | exact fam_ren rfl rfl rfl | exact row_nm rfl rfl | (refine row_nm rfl ?_) | exact sub_map rfl | exact map_same rfl | exact map_updc rfl | refine map_updc ?_ | refine map_same ?_ | refine map_mk ?_ ?_ | exact subL_nil | exact trivial | (intro Q h; refine h ?_; clear h Q) | refine And.intro ?_ ?_ | refine subL_cons ?_ ?_ | refine sub_agg ?_ | refine sub_tup ?_ | refine sub_fn ?_ | refine sub_bfn ?_ ?_ | refine var_mk ?_ | refine rd_var ?_ rfl | refine rd_rd ?_ | exact sub_ptr rfl rfl | exact sub_sl rfl rfl rfl | exact sub_refl_val _ _ | exact sub_sb rfl | exact sub_sbl rfl | exact row_same rfl rfl rfl | exact row_ren rfl rfl rfl | exact sub_nil rfl | ((first | refine sub_int ?_ | refine sub_sl rfl rfl ?_ | refine sub_nil ?_ | refine virt_mk ?_ | show (_ : Nat) = _); first | with_reducible rfl | omega | ((try simp only [wS]); omega) | rfl) | apply row_app1 | apply row_app2 | apply row_app1r | refine cells_succ ?_ ?_ | exact cell0 | with_reducible rfl | (refine And.left (b := True) ⟨?_, True.intro⟩; assumption) | refine sub_int ?_ | refine sub_sb ?_ | refine sub_sbl ?_ | refine sub_sl rfl rfl ?_ | (apply row_lit rfl; (focus (refine cells_succ ?_ ?_))) | refine row_same rfl ?_ ?_ | refine row_ren rfl ?_ ?_))))); (any_goals (apply okIx_mk; rfl)))); (all_goals (try (first | omega | (simp only; omega)))))
    | omega))
      all_goals (first | (rw [hb, Bool.true_or]) | (rename_i hq; rw [hq, Bool.false_or, decide_eq_true (show X = Y - 1 by omega)]) | (rename_i hq; rw [hq, Bool.false_or, decide_eq_false (show ¬ X = Y - 1 by omega)]))
      all_goals (refine bsub_arr (fun _ => rfl) (by rw [List.length_set]) (set_pt (subL_cons (by first | exact .inr rfl | exact .inl rfl) subL_nil) rfl (by omega) (fun q hq j hj => sub_nth FlatC.flat _ _ j)))
    · have hyy : y = l.length := by omega
      subst hyy
      rw [List.take_length]
      have hnear := fun b hb h0 => near_all hed ham hDa (b := b) hb h0
      have hNl := (hnb l ((List.replicate m false).set a true) hed (by simp)).1
      generalize nbF (dsF m l a) ((List.replicate m false).set a true) l = N at *
      have hdSa := hdS a
      have hmxS := fun k (hk : k < (dsF m l a).length) => foldl_take (fun p q : Int => if p < q then q else p) (G a) (dsF m l a) k 0 hk
      have hsyma := fun b hb => hsym a b ham hb
      have hsamea := fun b hb => hsame a b ham hb
      obtain ⟨c, hc1, hc2, hc3, hc4⟩ := hcs a ham
      have hidx := indexFunc_ok (RD.getD (0 + Int.toNat (a : Int)) []) (by rw [hza, hRDa, hDa.len]; omega) none c (by rw [hza, hRDa, hDa.len]; omega) (by rw [hza, hRDa]; exact hc3) (by rw [hza, hRDa]; exact hc4)
      have hcC : C.getD (0 + Int.toNat (a : Int)) 0 = c := by rw [hza]; exact hc1
      clear hnb hsg hdg hcp hck hlong hsym hsame hcs hc1 hc2 hc3 hc4
      (repeat' (first
    | (intro Q h; refine h ?_; clear h Q)
    | (with_reducible refine bcase_true ?_)
    | (with_reducible refine bcase_false ?_)
    | (refine bcase_mk (fun hb => ?_) (fun hb => ?_) <;> (try simp only [nS, nT, eq_self, reduceCtorEq] at hb) <;> (try (exfalso; (first | omega | (rw [hN] at hb; cases hb) | exact hb (decide_eq_decide.2 hz0) | exact hb (by rw [hX', hY']; exact decide_eq_decide.2 hs3)); done)))
    | refine nil_mk (fun hz => ?_) ?_
    | refine cp_full (by first | with_reducible rfl | omega | ((try simp only [wS]); omega) | rfl) (by first | with_reducible rfl | omega | ((try simp only [wS]); omega) | rfl) (by first | with_reducible rfl | omega | ((try simp only [wS]); omega) | rfl) ?_
    | refine draw_mk (by decide +kernel) ?_
    | refine seq_go ?_
    | refine And.intro (by first | omega | ((try simp only [wS]); omega) | rfl | decide) ?_
    | (fail)
    | omega))
      refine loop_inv (σ := Nat) (fun x => x ≤ m) (fun x => ⟨[(1, .ptr 1 2 0 0), (3, .sl 2 1 0 m none), (5, .sl 3 1 0 m none), (6, .val (.int .i64 (mxF (G a) ((dsF m l a).take x)))), (7, .val (.int .i64 a)), (8, .sl 4 1 0 m none), (40, .val (.int .i64 m)), (41, .val (.int .i64 a)), (124, .sl 5 1 0 m none), (125, .val (.int .i64 m)), (126, .val (.int .i64 x))], [gB l, .var [.val (.int .i64 m), .sl 0 4 0 l.length cap], sdB m m RD, iB true C, wB true 4 N, .row 2 a]⟩) (fun x => m - x) (0) ?_ ?_ ?_
      · omega
      · (apply le_mk [some 0, some 1, some 2, some 3, some 4, some 5]; (focus (iterate 2 (all_goals (repeat' (first | exact sub_dead | exact fam_same rfl rfl rfl | exact fam_rd rfl rfl | exact fam_ren rfl rfl rfl | exact row_nm rfl rfl | (refine row_nm rfl ?_) | exact sub_map rfl | exact map_same rfl | exact map_updc rfl | refine map_updc ?_ | refine map_same ?_ | refine map_mk ?_ ?_ | exact subL_nil | exact trivial | (intro Q h; refine h ?_; clear h Q) | refine And.intro ?_ ?_ | refine subL_cons ?_ ?_ | refine sub_agg ?_ | refine sub_tup ?_ | refine sub_fn ?_ | refine sub_bfn ?_ ?_ | refine var_mk ?_ | refine rd_var ?_ rfl | refine rd_rd ?_ | exact sub_ptr rfl rfl | exact sub_sl rfl rfl rfl | exact sub_refl_val _ _ | exact sub_sb rfl | exact sub_sbl rfl | exact row_same rfl rfl rfl | exact row_ren rfl rfl rfl | exact sub_nil rfl | ((first | refine sub_int ?_ | refine sub_sl rfl rfl ?_ | refine sub_nil ?_ | refine virt_mk ?_ | show (_ : Nat) = _); first | with_reducible rfl | omega | ((try simp only [wS]); omega) | rfl) | apply row_app1 | apply row_app2 | apply row_app1r | refine cells_succ ?_ ?_ | exact cell0 | with_reducible rfl | (refine And.left (b := True) ⟨?_, True.intro⟩; assumption) | refine sub_int ?_ | refine sub_sb ?_ | refine sub_sbl ?_ | refine sub_sl rfl rfl ?_ | (apply row_lit rfl; (focus (refine cells_succ ?_ ?_))) | refine row_same rfl ?_ ?_ | refine row_ren rfl ?_ ?_))))); (any_goals (apply okIx_mk; rfl)))
        all_goals (first | (rw [hrow]; done) | rfl | fail)
      rintro b hb
      by_cases hbm : b < m
      · have hzb : 0 + Int.toNat (b : Int) = b := by omega
        have hrowa : (famF intC 0 RD a).1 = m := by rw [famF_fst, hRDa, hDa.len]
        have hrowb : (famF intC 0 RD (0 + Int.toNat (b : Int))).1 = m := by rw [famF_fst, hzb, hRD b hbm, (hD b hbm).len]
        have d1 : (RD.getD a []).getD (0 + Int.toNat (b : Int)) 0 = (dsF m l a).getD b 0 := by rw [hRDa, hzb]
        have d4 : (RD.getD (0 + Int.toNat (b : Int)) []).getD (0 + Int.toNat (a : Int)) 0 = (dsF m l a).getD b 0 := by rw [hzb, hza, hRD b hbm]; exact (hsyma b hbm).symm
        have hlow := hDa.low b hbm
        have hz0 : (dsF m l a).getD b 0 = 0 ↔ (a : Int) = (b : Int) := by
          constructor
          · intro h
            have := hDa.only hbm h
            omega
          · intro h
            have e : b = a := by omega
            rw [e]; exact hDa.zero
        have hnr := hnear b hbm
        have hsb := hsamea b hbm
        rw [← hzb] at hnr
        have hsb1 : 0 ≤ (dsF m l a).getD b 0 → C.getD (0 + Int.toNat (b : Int)) 0 = C.getD (0 + Int.toNat (a : Int)) 0 := by rw [hzb, hza]; exact hsb.1
        have hsb2 : (dsF m l a).getD b 0 < 0 → C.getD (0 + Int.toNat (b : Int)) 0 ≠ C.getD (0 + Int.toNat (a : Int)) 0 := by rw [hzb, hza]; exact hsb.2
        rw [hzb] at hnr
        have hnr' : 0 ≤ (dsF m l a).getD b 0 → N.getD (0 + Int.toNat (b : Int)) false = true := by rw [hzb]; exact hnr
        have hmb : mxF (G a) ((dsF m l a).take (b + 1)) = if mxF (G a) ((dsF m l a).take b) < (dsF m l a).getD b 0 then (dsF m l a).getD b 0 else mxF (G a) ((dsF m l a).take b) := hmxS b (by rw [hDa.len]; omega)
        generalize mxF (G a) ((dsF m l a).take b) = q at *
        generalize (dsF m l a).getD b 0 = d at *
        clear hnr hsb hmxS hsyma hsamea hnear hidx hD hDm hRD hRDa hDa hed hdS hdSa hcC
        by_cases hd0 : 0 ≤ d
        · have hN := hnr' hd0
          have hCe := hsb1 hd0
          (repeat' (first
    | (intro Q h; refine h ?_; clear h Q)
    | (with_reducible refine bcase_true ?_)
    | (with_reducible refine bcase_false ?_)
    | (refine bcase_mk (fun hb => ?_) (fun hb => ?_) <;> (try simp only [nS, nT, eq_self, reduceCtorEq] at hb) <;> (try (exfalso; (first | omega | (rw [hN] at hb; cases hb) | exact hb (decide_eq_decide.2 hz0) | exact hb (by rw [hX', hY']; exact decide_eq_decide.2 hs3)); done)))
    | refine nil_mk (fun hz => ?_) ?_
    | refine cp_full (by first | with_reducible rfl | omega | ((try simp only [wS]); omega) | rfl) (by first | with_reducible rfl | omega | ((try simp only [wS]); omega) | rfl) (by first | with_reducible rfl | omega | ((try simp only [wS]); omega) | rfl) ?_
    | refine draw_mk (by decide +kernel) ?_
    | refine And.intro (by first | omega | ((try simp only [wS]); omega) | rfl | decide) ?_
    | (fail)
    | omega))
          refine seq_go ?_
          (repeat' (first
    | (intro Q h; refine h ?_; clear h Q)
    | (with_reducible refine bcase_true ?_)
    | (with_reducible refine bcase_false ?_)
    | (refine bcase_mk (fun hb => ?_) (fun hb => ?_) <;> (try simp only [nS, nT, eq_self, reduceCtorEq] at hb) <;> (try (exfalso; (first | omega | (rw [hN] at hb; cases hb) | exact hb (decide_eq_decide.2 hz0) | exact hb (by rw [hX', hY']; exact decide_eq_decide.2 hs3)); done)))
    | refine nil_mk (fun hz => ?_) ?_
    | refine cp_full (by first | with_reducible rfl | omega | ((try simp only [wS]); omega) | rfl) (by first | with_reducible rfl | omega | ((try simp only [wS]); omega) | rfl) (by first | with_reducible rfl | omega | ((try simp only [wS]); omega) | rfl) ?_
    | refine draw_mk (by decide +kernel) ?_
    | refine And.intro (by first | omega | ((try simp only [wS]); omega) | rfl | decide) ?_
    | (fail)
    | omega))
          refine seq_join (σ := Unit) (fun x => True) (fun x => ⟨[(1, .ptr 1 2 0 0), (3, .sl 2 1 0 m none), (5, .sl 3 1 0 m none), (6, .val (.int .i64 q)), (7, .val (.int .i64 a)), (8, .sl 4 1 0 m none), (13, .val (.int .i64 b)), (14, .val (.int .i64 d)), (40, .val (.int .i64 m)), (41, .val (.int .i64 a)), (124, .sl 5 1 0 m none), (125, .val (.int .i64 m)), (126, .val (.int .i64 b))], [gB l, .var [.val (.int .i64 m), .sl 0 4 0 l.length cap], sdB m m RD, iB true C, wB true 4 N, .row 2 a]⟩) ?_ ?_
          · (repeat' (first
    | (intro Q h; refine h ?_; clear h Q)
    | (with_reducible refine bcase_true ?_)
    | (with_reducible refine bcase_false ?_)
    | (refine bcase_mk (fun hb => ?_) (fun hb => ?_) <;> (try simp only [nS, nT, eq_self, reduceCtorEq] at hb) <;> (try (exfalso; (first | omega | (rw [hN] at hb; cases hb) | exact hb (decide_eq_decide.2 hz0) | exact hb (by rw [hX', hY']; exact decide_eq_decide.2 hs3)); done)))
    | refine nil_mk (fun hz => ?_) ?_
    | refine cp_full (by first | with_reducible rfl | omega | ((try simp only [wS]); omega) | rfl) (by first | with_reducible rfl | omega | ((try simp only [wS]); omega) | rfl) (by first | with_reducible rfl | omega | ((try simp only [wS]); omega) | rfl) ?_
    | refine draw_mk (by decide +kernel) ?_
    | refine seq_go ?_
    | refine And.intro (by first | omega | ((try simp only [wS]); omega) | rfl | decide) ?_
    | (apply join_sub (Subtype.mk () _); (focus (apply le_mk [some 0, some 1, some 2, some 3, some 4, some 5]; (focus (iterate 2 (all_goals (repeat' (first | exact sub_dead | exact fam_same rfl rfl rfl | exact fam_rd rfl rfl | exact fam_ren rfl rfl rfl | exact row_nm rfl rfl | (refine row_nm rfl ?_) | exact sub_map rfl | exact map_same rfl | exact map_updc rfl | refine map_updc ?_ | refine map_same ?_ | refine map_mk ?_ ?_ | exact subL_nil | exact trivial | (intro Q h; refine h ?_; clear h Q) | refine And.intro ?_ ?_ | refine subL_cons ?_ ?_ | refine sub_agg ?_ | refine sub_tup ?_ | refine sub_fn ?_ | refine sub_bfn ?_ ?_ | refine var_mk ?_ | refine rd_var ?_ rfl | refine rd_rd ?_ | exact sub_ptr rfl rfl | exact sub_sl rfl rfl rfl | exact sub_refl_val _ _ | exact sub_sb rfl | exact sub_sbl rfl | exact row_same rfl rfl rfl | exact row_ren rfl rfl rfl | exact sub_nil rfl | ((first | refine sub_int ?_ | refine sub_sl rfl rfl ?_ | refine sub_nil ?_ | refine virt_mk ?_ | show (_ : Nat) = _); first | with_reducible rfl | omega | ((try simp only [wS]); omega) | rfl) | apply row_app1 | apply row_app2 | apply row_app1r | refine cells_succ ?_ ?_ | exact cell0 | with_reducible rfl | (refine And.left (b := True) ⟨?_, True.intro⟩; assumption) | refine sub_int ?_ | refine sub_sb ?_ | refine sub_sbl ?_ | refine sub_sl rfl rfl ?_ | (apply row_lit rfl; (focus (refine cells_succ ?_ ?_))) | refine row_same rfl ?_ ?_ | refine row_ren rfl ?_ ?_))))); (any_goals (apply okIx_mk; rfl)))); (all_goals (try (first | omega | (simp only; omega)))))
    | omega))
            all_goals (first | exact d1 | fail)
          rintro ⟨⟩ _
          clear d1 hrowa
          (repeat' (first
    | (intro Q h; refine h ?_; clear h Q)
    | (with_reducible refine bcase_true ?_)
    | (with_reducible refine bcase_false ?_)
    | (refine bcase_mk (fun hb => ?_) (fun hb => ?_) <;> (try simp only [nS, nT, eq_self, reduceCtorEq] at hb) <;> (try (exfalso; (first | omega | (rw [hN] at hb; cases hb) | exact hb (decide_eq_decide.2 hz0) | exact hb (by rw [hX', hY']; exact decide_eq_decide.2 hs3)); done)))
    | refine nil_mk (fun hz => ?_) ?_
    | refine cp_full (by first | with_reducible rfl | omega | ((try simp only [wS]); omega) | rfl) (by first | with_reducible rfl | omega | ((try simp only [wS]); omega) | rfl) (by first | with_reducible rfl | omega | ((try simp only [wS]); omega) | rfl) ?_
    | refine draw_mk (by decide +kernel) ?_
    | refine And.intro (by first | omega | ((try simp only [wS]); omega) | rfl | decide) ?_
    | (fail)
    | omega))
          clear hc hl64 ecp edm hG0 hzy hyl hy hmx
          refine seq_join (σ := Unit) (fun x => True) (fun x => ⟨[(1, .ptr 1 2 0 0), (3, .sl 2 1 0 m none), (5, .sl 3 1 0 m none), (6, .val (.int .i64 q)), (7, .val (.int .i64 a)), (8, .sl 4 1 0 m none), (13, .val (.int .i64 b)), (14, .val (.int .i64 d)), (40, .val (.int .i64 m)), (41, .val (.int .i64 a)), (124, .sl 5 1 0 m none), (125, .val (.int .i64 m)), (126, .val (.int .i64 b))], [gB l, .var [.val (.int .i64 m), .sl 0 4 0 l.length cap], sdB m m RD, iB true C, wB true 4 N, .row 2 a]⟩) ?_ ?_
          · (repeat' (first
    | (intro Q h; refine h ?_; clear h Q)
    | (with_reducible refine bcase_true ?_)
    | (with_reducible refine bcase_false ?_)
    | (refine bcase_mk (fun hb => ?_) (fun hb => ?_) <;> (try simp only [nS, nT, eq_self, reduceCtorEq] at hb) <;> (try (exfalso; (first | omega | (rw [hN] at hb; cases hb) | exact hb (decide_eq_decide.2 hz0) | exact hb (by rw [hX', hY']; exact decide_eq_decide.2 hs3)); done)))
    | refine nil_mk (fun hz => ?_) ?_
    | refine cp_full (by first | with_reducible rfl | omega | ((try simp only [wS]); omega) | rfl) (by first | with_reducible rfl | omega | ((try simp only [wS]); omega) | rfl) (by first | with_reducible rfl | omega | ((try simp only [wS]); omega) | rfl) ?_
    | refine draw_mk (by decide +kernel) ?_
    | refine seq_go ?_
    | refine And.intro (by first | omega | ((try simp only [wS]); omega) | rfl | decide) ?_
    | (apply join_sub (Subtype.mk () _); (focus (apply le_mk [some 0, some 1, some 2, some 3, some 4, some 5]; (focus (iterate 2 (all_goals (repeat' (first | exact sub_dead | exact fam_same rfl rfl rfl | exact fam_rd rfl rfl | exact fam_ren rfl rfl rfl | exact row_nm rfl rfl | (refine row_nm rfl ?_) | exact sub_map rfl | exact map_same rfl | exact map_updc rfl | refine map_updc ?_ | refine map_same ?_ | refine map_mk ?_ ?_ | exact subL_nil | exact trivial | (intro Q h; refine h ?_; clear h Q) | refine And.intro ?_ ?_ | refine subL_cons ?_ ?_ | refine sub_agg ?_ | refine sub_tup ?_ | refine sub_fn ?_ | refine sub_bfn ?_ ?_ | refine var_mk ?_ | refine rd_var ?_ rfl | refine rd_rd ?_ | exact sub_ptr rfl rfl | exact sub_sl rfl rfl rfl | exact sub_refl_val _ _ | exact sub_sb rfl | exact sub_sbl rfl | exact row_same rfl rfl rfl | exact row_ren rfl rfl rfl | exact sub_nil rfl | ((first | refine sub_int ?_ | refine sub_sl rfl rfl ?_ | refine sub_nil ?_ | refine virt_mk ?_ | show (_ : Nat) = _); first | with_reducible rfl | omega | ((try simp only [wS]); omega) | rfl) | apply row_app1 | apply row_app2 | apply row_app1r | refine cells_succ ?_ ?_ | exact cell0 | with_reducible rfl | (refine And.left (b := True) ⟨?_, True.intro⟩; assumption) | refine sub_int ?_ | refine sub_sb ?_ | refine sub_sbl ?_ | refine sub_sl rfl rfl ?_ | (apply row_lit rfl; (focus (refine cells_succ ?_ ?_))) | refine row_same rfl ?_ ?_ | refine row_ren rfl ?_ ?_))))); (any_goals (apply okIx_mk; rfl)))); (all_goals (try (first | omega | (simp only; omega)))))
    | omega))
          rintro ⟨⟩ _
          (repeat' (first
    | (intro Q h; refine h ?_; clear h Q)
    | (with_reducible refine bcase_true ?_)
    | (with_reducible refine bcase_false ?_)
    | (refine bcase_mk (fun hb => ?_) (fun hb => ?_) <;> (try simp only [nS, nT, eq_self, reduceCtorEq] at hb) <;> (try (exfalso; (first | omega | (rw [hN] at hb; cases hb) | exact hb (decide_eq_decide.2 hz0) | exact hb (by rw [hX', hY']; exact decide_eq_decide.2 hs3)); done)))
    | refine nil_mk (fun hz => ?_) ?_
    | refine cp_full (by first | with_reducible rfl | omega | ((try simp only [wS]); omega) | rfl) (by first | with_reducible rfl | omega | ((try simp only [wS]); omega) | rfl) (by first | with_reducible rfl | omega | ((try simp only [wS]); omega) | rfl) ?_
    | refine draw_mk (by decide +kernel) ?_
    | refine seq_go ?_
    | refine And.intro (by first | omega | ((try simp only [wS]); omega) | rfl | decide) ?_
    | (apply next_sub (Subtype.mk (b + 1) (by first | omega | (simp only; omega))); (focus (rw [hmb]; apply le_mk [some 0, some 1, some 2, some 3, some 4, some 5]; (focus (iterate 2 (all_goals (repeat' (first | exact sub_dead | exact fam_same rfl rfl rfl | exact fam_rd rfl rfl | exact fam_ren rfl rfl rfl | exact row_nm rfl rfl | (refine row_nm rfl ?_) | exact sub_map rfl | exact map_same rfl | exact map_updc rfl | refine map_updc ?_ | refine map_same ?_ | refine map_mk ?_ ?_ | exact subL_nil | exact trivial | (intro Q h; refine h ?_; clear h Q) | refine And.intro ?_ ?_ | refine subL_cons ?_ ?_ | refine sub_agg ?_ | refine sub_tup ?_ | refine sub_fn ?_ | refine sub_bfn ?_ ?_ | refine var_mk ?_ | refine rd_var ?_ rfl | refine rd_rd ?_ | exact sub_ptr rfl rfl | exact sub_sl rfl rfl rfl | exact sub_refl_val _ _ | exact sub_sb rfl | exact sub_sbl rfl | exact row_same rfl rfl rfl | exact row_ren rfl rfl rfl | exact sub_nil rfl | ((first | refine sub_int ?_ | refine sub_sl rfl rfl ?_ | refine sub_nil ?_ | refine virt_mk ?_ | show (_ : Nat) = _); first | with_reducible rfl | omega | ((try simp only [wS]); omega) | rfl) | apply row_app1 | apply row_app2 | apply row_app1r | refine cells_succ ?_ ?_ | exact cell0 | with_reducible rfl | (refine And.left (b := True) ⟨?_, True.intro⟩; assumption) | refine sub_int ?_ | refine sub_sb ?_ | refine sub_sbl ?_ | refine sub_sl rfl rfl ?_ | (apply row_lit rfl; (focus (refine cells_succ ?_ ?_))) | refine row_same rfl ?_ ?_ | refine row_ren rfl ?_ ?_))))); (any_goals (apply okIx_mk; rfl)))); (all_goals (try (first | omega | (simp only; omega)))))
    | omega))
        · have hCe := hsb2 (by omega)
          (repeat' (first
    | (intro Q h; refine h ?_; clear h Q)
    | (with_reducible refine bcase_true ?_)
    | (with_reducible refine bcase_false ?_)
    | (refine bcase_mk (fun hb => ?_) (fun hb => ?_) <;> (try simp only [nS, nT, eq_self, reduceCtorEq] at hb) <;> (try (exfalso; (first | omega | (rw [hN] at hb; cases hb) | exact hb (decide_eq_decide.2 hz0) | exact hb (by rw [hX', hY']; exact decide_eq_decide.2 hs3)); done)))
    | refine nil_mk (fun hz => ?_) ?_
    | refine cp_full (by first | with_reducible rfl | omega | ((try simp only [wS]); omega) | rfl) (by first | with_reducible rfl | omega | ((try simp only [wS]); omega) | rfl) (by first | with_reducible rfl | omega | ((try simp only [wS]); omega) | rfl) ?_
    | refine draw_mk (by decide +kernel) ?_
    | refine And.intro (by first | omega | ((try simp only [wS]); omega) | rfl | decide) ?_
    | (fail)
    | omega))
          refine seq_go ?_
          (repeat' (first
    | (intro Q h; refine h ?_; clear h Q)
    | (with_reducible refine bcase_true ?_)
    | (with_reducible refine bcase_false ?_)
    | (refine bcase_mk (fun hb => ?_) (fun hb => ?_) <;> (try simp only [nS, nT, eq_self, reduceCtorEq] at hb) <;> (try (exfalso; (first | omega | (rw [hN] at hb; cases hb) | exact hb (decide_eq_decide.2 hz0) | exact hb (by rw [hX', hY']; exact decide_eq_decide.2 hs3)); done)))
    | refine nil_mk (fun hz => ?_) ?_
    | refine cp_full (by first | with_reducible rfl | omega | ((try simp only [wS]); omega) | rfl) (by first | with_reducible rfl | omega | ((try simp only [wS]); omega) | rfl) (by first | with_reducible rfl | omega | ((try simp only [wS]); omega) | rfl) ?_
    | refine draw_mk (by decide +kernel) ?_
    | refine And.intro (by first | omega | ((try simp only [wS]); omega) | rfl | decide) ?_
    | (fail)
    | omega))
          refine seq_join (σ := Unit) (fun x => True) (fun x => ⟨[(1, .ptr 1 2 0 0), (3, .sl 2 1 0 m none), (5, .sl 3 1 0 m none), (6, .val (.int .i64 q)), (7, .val (.int .i64 a)), (8, .sl 4 1 0 m none), (13, .val (.int .i64 b)), (14, .val (.int .i64 d)), (40, .val (.int .i64 m)), (41, .val (.int .i64 a)), (124, .sl 5 1 0 m none), (125, .val (.int .i64 m)), (126, .val (.int .i64 b))], [gB l, .var [.val (.int .i64 m), .sl 0 4 0 l.length cap], sdB m m RD, iB true C, wB true 4 N, .row 2 a]⟩) ?_ ?_
          · (repeat' (first
    | (intro Q h; refine h ?_; clear h Q)
    | (with_reducible refine bcase_true ?_)
    | (with_reducible refine bcase_false ?_)
    | (refine bcase_mk (fun hb => ?_) (fun hb => ?_) <;> (try simp only [nS, nT, eq_self, reduceCtorEq] at hb) <;> (try (exfalso; (first | omega | (rw [hN] at hb; cases hb) | exact hb (decide_eq_decide.2 hz0) | exact hb (by rw [hX', hY']; exact decide_eq_decide.2 hs3)); done)))
    | refine nil_mk (fun hz => ?_) ?_
    | refine cp_full (by first | with_reducible rfl | omega | ((try simp only [wS]); omega) | rfl) (by first | with_reducible rfl | omega | ((try simp only [wS]); omega) | rfl) (by first | with_reducible rfl | omega | ((try simp only [wS]); omega) | rfl) ?_
    | refine draw_mk (by decide +kernel) ?_
    | refine seq_go ?_
    | refine And.intro (by first | omega | ((try simp only [wS]); omega) | rfl | decide) ?_
    | (apply join_sub (Subtype.mk () _); (focus (apply le_mk [some 0, some 1, some 2, some 3, some 4, some 5]; (focus (iterate 2 (all_goals (repeat' (first | exact sub_dead | exact fam_same rfl rfl rfl | exact fam_rd rfl rfl | exact fam_ren rfl rfl rfl | exact row_nm rfl rfl | (refine row_nm rfl ?_) | exact sub_map rfl | exact map_same rfl | exact map_updc rfl | refine map_updc ?_ | refine map_same ?_ | refine map_mk ?_ ?_ | exact subL_nil | exact trivial | (intro Q h; refine h ?_; clear h Q) | refine And.intro ?_ ?_ | refine subL_cons ?_ ?_ | refine sub_agg ?_ | refine sub_tup ?_ | refine sub_fn ?_ | refine sub_bfn ?_ ?_ | refine var_mk ?_ | refine rd_var ?_ rfl | refine rd_rd ?_ | exact sub_ptr rfl rfl | exact sub_sl rfl rfl rfl | exact sub_refl_val _ _ | exact sub_sb rfl | exact sub_sbl rfl | exact row_same rfl rfl rfl | exact row_ren rfl rfl rfl | exact sub_nil rfl | ((first | refine sub_int ?_ | refine sub_sl rfl rfl ?_ | refine sub_nil ?_ | refine virt_mk ?_ | show (_ : Nat) = _); first | with_reducible rfl | omega | ((try simp only [wS]); omega) | rfl) | apply row_app1 | apply row_app2 | apply row_app1r | refine cells_succ ?_ ?_ | exact cell0 | with_reducible rfl | (refine And.left (b := True) ⟨?_, True.intro⟩; assumption) | refine sub_int ?_ | refine sub_sb ?_ | refine sub_sbl ?_ | refine sub_sl rfl rfl ?_ | (apply row_lit rfl; (focus (refine cells_succ ?_ ?_))) | refine row_same rfl ?_ ?_ | refine row_ren rfl ?_ ?_))))); (any_goals (apply okIx_mk; rfl)))); (all_goals (try (first | omega | (simp only; omega)))))
    | omega))
            all_goals (first | exact d1 | fail)
          rintro ⟨⟩ _
          clear d1 hrowa
          (repeat' (first
    | (intro Q h; refine h ?_; clear h Q)
    | (with_reducible refine bcase_true ?_)
    | (with_reducible refine bcase_false ?_)
    | (refine bcase_mk (fun hb => ?_) (fun hb => ?_) <;> (try simp only [nS, nT, eq_self, reduceCtorEq] at hb) <;> (try (exfalso; (first | omega | (rw [hN] at hb; cases hb) | exact hb (decide_eq_decide.2 hz0) | exact hb (by rw [hX', hY']; exact decide_eq_decide.2 hs3)); done)))
    | refine nil_mk (fun hz => ?_) ?_
    | refine cp_full (by first | with_reducible rfl | omega | ((try simp only [wS]); omega) | rfl) (by first | with_reducible rfl | omega | ((try simp only [wS]); omega) | rfl) (by first | with_reducible rfl | omega | ((try simp only [wS]); omega) | rfl) ?_
    | refine draw_mk (by decide +kernel) ?_
    | refine And.intro (by first | omega | ((try simp only [wS]); omega) | rfl | decide) ?_
    | (fail)
    | omega))
          clear hc hl64 ecp edm hG0 hzy hyl hy hmx
          refine seq_join (σ := Unit) (fun x => True) (fun x => ⟨[(1, .ptr 1 2 0 0), (3, .sl 2 1 0 m none), (5, .sl 3 1 0 m none), (6, .val (.int .i64 q)), (7, .val (.int .i64 a)), (8, .sl 4 1 0 m none), (13, .val (.int .i64 b)), (14, .val (.int .i64 d)), (40, .val (.int .i64 m)), (41, .val (.int .i64 a)), (124, .sl 5 1 0 m none), (125, .val (.int .i64 m)), (126, .val (.int .i64 b))], [gB l, .var [.val (.int .i64 m), .sl 0 4 0 l.length cap], sdB m m RD, iB true C, wB true 4 N, .row 2 a]⟩) ?_ ?_
          · (repeat' (first
    | (intro Q h; refine h ?_; clear h Q)
    | (with_reducible refine bcase_true ?_)
    | (with_reducible refine bcase_false ?_)
    | (refine bcase_mk (fun hb => ?_) (fun hb => ?_) <;> (try simp only [nS, nT, eq_self, reduceCtorEq] at hb) <;> (try (exfalso; (first | omega | (rw [hN] at hb; cases hb) | exact hb (decide_eq_decide.2 hz0) | exact hb (by rw [hX', hY']; exact decide_eq_decide.2 hs3)); done)))
    | refine nil_mk (fun hz => ?_) ?_
    | refine cp_full (by first | with_reducible rfl | omega | ((try simp only [wS]); omega) | rfl) (by first | with_reducible rfl | omega | ((try simp only [wS]); omega) | rfl) (by first | with_reducible rfl | omega | ((try simp only [wS]); omega) | rfl) ?_
    | refine draw_mk (by decide +kernel) ?_
    | refine seq_go ?_
    | refine And.intro (by first | omega | ((try simp only [wS]); omega) | rfl | decide) ?_
    | (apply join_sub (Subtype.mk () _); (focus (apply le_mk [some 0, some 1, some 2, some 3, some 4, some 5]; (focus (iterate 2 (all_goals (repeat' (first | exact sub_dead | exact fam_same rfl rfl rfl | exact fam_rd rfl rfl | exact fam_ren rfl rfl rfl | exact row_nm rfl rfl | (refine row_nm rfl ?_) | exact sub_map rfl | exact map_same rfl | exact map_updc rfl | refine map_updc ?_ | refine map_same ?_ | refine map_mk ?_ ?_ | exact subL_nil | exact trivial | (intro Q h; refine h ?_; clear h Q) | refine And.intro ?_ ?_ | refine subL_cons ?_ ?_ | refine sub_agg ?_ | refine sub_tup ?_ | refine sub_fn ?_ | refine sub_bfn ?_ ?_ | refine var_mk ?_ | refine rd_var ?_ rfl | refine rd_rd ?_ | exact sub_ptr rfl rfl | exact sub_sl rfl rfl rfl | exact sub_refl_val _ _ | exact sub_sb rfl | exact sub_sbl rfl | exact row_same rfl rfl rfl | exact row_ren rfl rfl rfl | exact sub_nil rfl | ((first | refine sub_int ?_ | refine sub_sl rfl rfl ?_ | refine sub_nil ?_ | refine virt_mk ?_ | show (_ : Nat) = _); first | with_reducible rfl | omega | ((try simp only [wS]); omega) | rfl) | apply row_app1 | apply row_app2 | apply row_app1r | refine cells_succ ?_ ?_ | exact cell0 | with_reducible rfl | (refine And.left (b := True) ⟨?_, True.intro⟩; assumption) | refine sub_int ?_ | refine sub_sb ?_ | refine sub_sbl ?_ | refine sub_sl rfl rfl ?_ | (apply row_lit rfl; (focus (refine cells_succ ?_ ?_))) | refine row_same rfl ?_ ?_ | refine row_ren rfl ?_ ?_))))); (any_goals (apply okIx_mk; rfl)))); (all_goals (try (first | omega | (simp only; omega)))))
    | omega))
          rintro ⟨⟩ _
          (repeat' (first
    | (intro Q h; refine h ?_; clear h Q)
    | (with_reducible refine bcase_true ?_)
    | (with_reducible refine bcase_false ?_)
    | (refine bcase_mk (fun hb => ?_) (fun hb => ?_) <;> (try simp only [nS, nT, eq_self, reduceCtorEq] at hb) <;> (try (exfalso; (first | omega | (rw [hN] at hb; cases hb) | exact hb (decide_eq_decide.2 hz0) | exact hb (by rw [hX', hY']; exact decide_eq_decide.2 hs3)); done)))
    | refine nil_mk (fun hz => ?_) ?_
    | refine cp_full (by first | with_reducible rfl | omega | ((try simp only [wS]); omega) | rfl) (by first | with_reducible rfl | omega | ((try simp only [wS]); omega) | rfl) (by first | with_reducible rfl | omega | ((try simp only [wS]); omega) | rfl) ?_
    | refine draw_mk (by decide +kernel) ?_
    | refine seq_go ?_
    | refine And.intro (by first | omega | ((try simp only [wS]); omega) | rfl | decide) ?_
    | (apply next_sub (Subtype.mk (b + 1) (by first | omega | (simp only; omega))); (focus (rw [hmb]; apply le_mk [some 0, some 1, some 2, some 3, some 4, some 5]; (focus (iterate 2 (all_goals (repeat' (first | exact sub_dead | exact fam_same rfl rfl rfl | exact fam_rd rfl rfl | exact fam_ren rfl rfl rfl | exact row_nm rfl rfl | (refine row_nm rfl ?_) | exact sub_map rfl | exact map_same rfl | exact map_updc rfl | refine map_updc ?_ | refine map_same ?_ | refine map_mk ?_ ?_ | exact subL_nil | exact trivial | (intro Q h; refine h ?_; clear h Q) | refine And.intro ?_ ?_ | refine subL_cons ?_ ?_ | refine sub_agg ?_ | refine sub_tup ?_ | refine sub_fn ?_ | refine sub_bfn ?_ ?_ | refine var_mk ?_ | refine rd_var ?_ rfl | refine rd_rd ?_ | exact sub_ptr rfl rfl | exact sub_sl rfl rfl rfl | exact sub_refl_val _ _ | exact sub_sb rfl | exact sub_sbl rfl | exact row_same rfl rfl rfl | exact row_ren rfl rfl rfl | exact sub_nil rfl | ((first | refine sub_int ?_ | refine sub_sl rfl rfl ?_ | refine sub_nil ?_ | refine virt_mk ?_ | show (_ : Nat) = _); first | with_reducible rfl | omega | ((try simp only [wS]); omega) | rfl) | apply row_app1 | apply row_app2 | apply row_app1r | refine cells_succ ?_ ?_ | exact cell0 | with_reducible rfl | (refine And.left (b := True) ⟨?_, True.intro⟩; assumption) | refine sub_int ?_ | refine sub_sb ?_ | refine sub_sbl ?_ | refine sub_sl rfl rfl ?_ | (apply row_lit rfl; (focus (refine cells_succ ?_ ?_))) | refine row_same rfl ?_ ?_ | refine row_ren rfl ?_ ?_))))); (any_goals (apply okIx_mk; rfl)))); (all_goals (try (first | omega | (simp only; omega)))))
    | omega))
      · have hbb : b = m := by omega
        subst hbb
        have e1 : (dsF b l a).take b = dsF b l a := List.take_of_length_le (by rw [hDa.len]; exact Nat.le_refl _)
        rw [e1]
        clear hnear hmxS hsyma hsamea hD hDm hRD hdS hed hDa e1
        (repeat' (first
    | (intro Q h; refine h ?_; clear h Q)
    | (with_reducible refine bcase_true ?_)
    | (with_reducible refine bcase_false ?_)
    | (refine bcase_mk (fun hb => ?_) (fun hb => ?_) <;> (try simp only [nS, nT, eq_self, reduceCtorEq] at hb) <;> (try (exfalso; (first | omega | (rw [hN] at hb; cases hb) | exact hb (decide_eq_decide.2 hz0) | exact hb (by rw [hX', hY']; exact decide_eq_decide.2 hs3)); done)))
    | refine nil_mk (fun hz => ?_) ?_
    | refine cp_full (by first | with_reducible rfl | omega | ((try simp only [wS]); omega) | rfl) (by first | with_reducible rfl | omega | ((try simp only [wS]); omega) | rfl) (by first | with_reducible rfl | omega | ((try simp only [wS]); omega) | rfl) ?_
    | refine draw_mk (by decide +kernel) ?_
    | refine seq_go ?_
    | refine And.intro (by first | omega | ((try simp only [wS]); omega) | rfl | decide) ?_
    | ((first | apply call_detx [some 6] (hidx) | apply calld_detx [some 6] (hidx)); (focus ((iterate 2 (all_goals (repeat' (first | exact sub_dead | exact fam_same rfl rfl rfl | exact fam_rd rfl rfl | exact fam_ren rfl rfl rfl | exact row_nm rfl rfl | (refine row_nm rfl ?_) | exact sub_map rfl | exact map_same rfl | exact map_updc rfl | refine map_updc ?_ | refine map_same ?_ | refine map_mk ?_ ?_ | exact subL_nil | exact trivial | (intro Q h; refine h ?_; clear h Q) | refine And.intro ?_ ?_ | refine subL_cons ?_ ?_ | refine sub_agg ?_ | refine sub_tup ?_ | refine sub_fn ?_ | refine sub_bfn ?_ ?_ | refine var_mk ?_ | refine rd_var ?_ rfl | refine rd_rd ?_ | exact sub_ptr rfl rfl | exact sub_sl rfl rfl rfl | exact sub_refl_val _ _ | exact sub_sb rfl | exact sub_sbl rfl | exact row_same rfl rfl rfl | exact row_ren rfl rfl rfl | exact sub_nil rfl | ((first | refine sub_int ?_ | refine sub_sl rfl rfl ?_ | refine sub_nil ?_ | refine virt_mk ?_ | show (_ : Nat) = _); first | with_reducible rfl | omega | ((try simp only [wS]); omega) | rfl) | apply row_app1 | apply row_app2 | apply row_app1r | refine cells_succ ?_ ?_ | exact cell0 | with_reducible rfl | (refine And.left (b := True) ⟨?_, True.intro⟩; assumption) | refine sub_int ?_ | refine sub_sb ?_ | refine sub_sbl ?_ | refine sub_sl rfl rfl ?_ | (apply row_lit rfl; (focus (refine cells_succ ?_ ?_))) | refine row_same rfl ?_ ?_ | refine row_ren rfl ?_ ?_)))); done)); (any_goals (first | (apply nodup_mk; rfl) | (apply nodup_mk2; rfl) | (apply nodup_mk3; rfl))))
    | (apply next_sub (Subtype.mk (a + 1) (by first | omega | (simp only; omega))); (focus (rw [hdSa]; apply le_mk [some 0, some 1, some 2, some 3]; (focus (iterate 2 (all_goals (repeat' (first | exact sub_dead | exact fam_same rfl rfl rfl | exact fam_rd rfl rfl | exact fam_ren rfl rfl rfl | exact row_nm rfl rfl | (refine row_nm rfl ?_) | exact sub_map rfl | exact map_same rfl | exact map_updc rfl | refine map_updc ?_ | refine map_same ?_ | refine map_mk ?_ ?_ | exact subL_nil | exact trivial | (intro Q h; refine h ?_; clear h Q) | refine And.intro ?_ ?_ | refine subL_cons ?_ ?_ | refine sub_agg ?_ | refine sub_tup ?_ | refine sub_fn ?_ | refine sub_bfn ?_ ?_ | refine var_mk ?_ | refine rd_var ?_ rfl | refine rd_rd ?_ | exact sub_ptr rfl rfl | exact sub_sl rfl rfl rfl | exact sub_refl_val _ _ | exact sub_sb rfl | exact sub_sbl rfl | exact row_same rfl rfl rfl | exact row_ren rfl rfl rfl | exact sub_nil rfl | ((first | refine sub_int ?_ | refine sub_sl rfl rfl ?_ | refine sub_nil ?_ | refine virt_mk ?_ | show (_ : Nat) = _); first | with_reducible rfl | omega | ((try simp only [wS]); omega) | rfl) | apply row_app1 | apply row_app2 | apply row_app1r | refine cells_succ ?_ ?_ | exact cell0 | with_reducible rfl | (refine And.left (b := True) ⟨?_, True.intro⟩; assumption) | refine sub_int ?_ | refine sub_sb ?_ | refine sub_sbl ?_ | refine sub_sl rfl rfl ?_ | (apply row_lit rfl; (focus (refine cells_succ ?_ ?_))) | refine row_same rfl ?_ ?_ | refine row_ren rfl ?_ ?_))))); (any_goals (apply okIx_mk; rfl)))); (all_goals (try (first | omega | (simp only; omega)))))
    | omega))
  · have haa : a = m := by omega
    subst haa
    (repeat' (first
    | (intro Q h; refine h ?_; clear h Q)
    | (with_reducible refine bcase_true ?_)
    | (with_reducible refine bcase_false ?_)
    | (refine bcase_mk (fun hb => ?_) (fun hb => ?_) <;> (try simp only [nS, nT, eq_self, reduceCtorEq] at hb) <;> (try (exfalso; (first | omega | (rw [hN] at hb; cases hb) | exact hb (decide_eq_decide.2 hz0) | exact hb (by rw [hX', hY']; exact decide_eq_decide.2 hs3)); done)))
    | refine nil_mk (fun hz => ?_) ?_
    | refine cp_full (by first | with_reducible rfl | omega | ((try simp only [wS]); omega) | rfl) (by first | with_reducible rfl | omega | ((try simp only [wS]); omega) | rfl) (by first | with_reducible rfl | omega | ((try simp only [wS]); omega) | rfl) ?_
    | refine draw_mk (by decide +kernel) ?_
    | refine seq_go ?_
    | refine And.intro (by first | omega | ((try simp only [wS]); omega) | rfl | decide) ?_
    | ((first | apply call1 (hdg) | apply calld1 (hdg)); (focus ((iterate 2 (all_goals (repeat' (first | exact sub_dead | exact fam_same rfl rfl rfl | exact fam_rd rfl rfl | exact fam_ren rfl rfl rfl | exact row_nm rfl rfl | (refine row_nm rfl ?_) | exact sub_map rfl | exact map_same rfl | exact map_updc rfl | refine map_updc ?_ | refine map_same ?_ | refine map_mk ?_ ?_ | exact subL_nil | exact trivial | (intro Q h; refine h ?_; clear h Q) | refine And.intro ?_ ?_ | refine subL_cons ?_ ?_ | refine sub_agg ?_ | refine sub_tup ?_ | refine sub_fn ?_ | refine sub_bfn ?_ ?_ | refine var_mk ?_ | refine rd_var ?_ rfl | refine rd_rd ?_ | exact sub_ptr rfl rfl | exact sub_sl rfl rfl rfl | exact sub_refl_val _ _ | exact sub_sb rfl | exact sub_sbl rfl | exact row_same rfl rfl rfl | exact row_ren rfl rfl rfl | exact sub_nil rfl | ((first | refine sub_int ?_ | refine sub_sl rfl rfl ?_ | refine sub_nil ?_ | refine virt_mk ?_ | show (_ : Nat) = _); first | with_reducible rfl | omega | ((try simp only [wS]); omega) | rfl) | apply row_app1 | apply row_app2 | apply row_app1r | refine cells_succ ?_ ?_ | exact cell0 | with_reducible rfl | (refine And.left (b := True) ⟨?_, True.intro⟩; assumption) | refine sub_int ?_ | refine sub_sb ?_ | refine sub_sbl ?_ | refine sub_sl rfl rfl ?_ | (apply row_lit rfl; (focus (refine cells_succ ?_ ?_))) | refine row_same rfl ?_ ?_ | refine row_ren rfl ?_ ?_)))); done)); (try (any_goals (first | (apply nodup_mk; rfl) | (apply nodup_mk2; rfl) | (apply nodup_mk3; rfl)))))
    | ((first | apply call0 (awake_ok) | apply calld0 (awake_ok)); (focus (iterate 2 (all_goals (repeat' (first | exact sub_dead | exact fam_same rfl rfl rfl | exact fam_rd rfl rfl | exact fam_ren rfl rfl rfl | exact row_nm rfl rfl | (refine row_nm rfl ?_) | exact sub_map rfl | exact map_same rfl | exact map_updc rfl | refine map_updc ?_ | refine map_same ?_ | refine map_mk ?_ ?_ | exact subL_nil | exact trivial | (intro Q h; refine h ?_; clear h Q) | refine And.intro ?_ ?_ | refine subL_cons ?_ ?_ | refine sub_agg ?_ | refine sub_tup ?_ | refine sub_fn ?_ | refine sub_bfn ?_ ?_ | refine var_mk ?_ | refine rd_var ?_ rfl | refine rd_rd ?_ | exact sub_ptr rfl rfl | exact sub_sl rfl rfl rfl | exact sub_refl_val _ _ | exact sub_sb rfl | exact sub_sbl rfl | exact row_same rfl rfl rfl | exact row_ren rfl rfl rfl | exact sub_nil rfl | ((first | refine sub_int ?_ | refine sub_sl rfl rfl ?_ | refine sub_nil ?_ | refine virt_mk ?_ | show (_ : Nat) = _); first | with_reducible rfl | omega | ((try simp only [wS]); omega) | rfl) | apply row_app1 | apply row_app2 | apply row_app1r | refine cells_succ ?_ ?_ | exact cell0 | with_reducible rfl | (refine And.left (b := True) ⟨?_, True.intro⟩; assumption) | refine sub_int ?_ | refine sub_sb ?_ | refine sub_sbl ?_ | refine sub_sl rfl rfl ?_ | (apply row_lit rfl; (focus (refine cells_succ ?_ ?_))) | refine row_same rfl ?_ ?_ | refine row_ren rfl ?_ ?_))))))
    | (apply ret_mk [some 0]; (focus (iterate 2 (all_goals (repeat' (first | exact sub_dead | exact fam_same rfl rfl rfl | exact fam_rd rfl rfl | exact fam_ren rfl rfl rfl | exact row_nm rfl rfl | (refine row_nm rfl ?_) | exact sub_map rfl | exact map_same rfl | exact map_updc rfl | refine map_updc ?_ | refine map_same ?_ | refine map_mk ?_ ?_ | exact subL_nil | exact trivial | (intro Q h; refine h ?_; clear h Q) | refine And.intro ?_ ?_ | refine subL_cons ?_ ?_ | refine sub_agg ?_ | refine sub_tup ?_ | refine sub_fn ?_ | refine sub_bfn ?_ ?_ | refine var_mk ?_ | refine rd_var ?_ rfl | refine rd_rd ?_ | exact sub_ptr rfl rfl | exact sub_sl rfl rfl rfl | exact sub_refl_val _ _ | exact sub_sb rfl | exact sub_sbl rfl | exact row_same rfl rfl rfl | exact row_ren rfl rfl rfl | exact sub_nil rfl | ((first | refine sub_int ?_ | refine sub_sl rfl rfl ?_ | refine sub_nil ?_ | refine virt_mk ?_ | show (_ : Nat) = _); first | with_reducible rfl | omega | ((try simp only [wS]); omega) | rfl) | apply row_app1 | apply row_app2 | apply row_app1r | refine cells_succ ?_ ?_ | exact cell0 | with_reducible rfl | (refine And.left (b := True) ⟨?_, True.intro⟩; assumption) | refine sub_int ?_ | refine sub_sb ?_ | refine sub_sbl ?_ | refine sub_sl rfl rfl ?_ | (apply row_lit rfl; (focus (refine cells_succ ?_ ?_))) | refine row_same rfl ?_ ?_ | refine row_ren rfl ?_ ?_))))); (any_goals (apply okIx_mk; rfl)))
    | omega))
end Go.Vx.L18

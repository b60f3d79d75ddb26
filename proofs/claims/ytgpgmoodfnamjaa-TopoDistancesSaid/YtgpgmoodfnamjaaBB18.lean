/- Lemmas of a small executor for the model, and contracts of functions, used for the law that this claim proves. No condition. -/
import Derived.Test.YtgpgmoodfnamjaaBB16
set_option linter.unusedSimpArgs false
set_option linter.unusedVariables false
set_option maxRecDepth 100000
namespace Go.Vx.L18
open Go Go.Proofs
/-- The lists of distances. -/
def sdF (n : Nat) (l : List Ed) (k : Nat) : List (List Int) := (List.range k).map (dsF n l)
theorem sdF_len (n : Nat) (l : List Ed) (k : Nat) : (sdF n l k).length = k := by simp [sdF]
theorem sdF_succ (n : Nat) (l : List Ed) (k : Nat) : sdF n l (k + 1) = sdF n l k ++ [dsF n l k] := by
  unfold sdF
  rw [List.range_succ, List.map_append]; rfl
theorem sdF_get (n : Nat) (l : List Ed) {k i : Nat} (h : i < k) : (sdF n l k).getD i [] = dsF n l i := by
  unfold sdF
  rw [List.getD_eq_getElem?_getD, List.getElem?_map, List.getElem?_range h]; rfl
abbrev sdB (n k : Nat) (rs : List (List Int)) : Blk := .fam true 30 3 1 k (famF intC 0 rs) none 0
set_option maxHeartbeats 1000000 in
theorem sound_ok (m : Nat) (l : List Ed) (cap : Option Nat) (hl : l.length ≤ maxLen) (hc : ckC m l = 0) :
    Runs Try.prog 25 [gA m l cap] [gB l] (Det (.tup [.sl 1 1 0 m none, .sb true]) [gB l, sdB m m (sdF m l m)]) := by
  obtain ⟨m', hmm, hm, hl64, hed⟩ := ckC_parts hc
  obtain rfl : m = m' := by omega
  have hds : ∀ i, i < m → dsA m l i = dsF m l i := fun i hi => dsA_node hc hi
  have hdl : ∀ i, i < m → (dsF m l i).length = m := fun i hi => (dsF_is hed hm.2 hi).1.len
  refine Runs.mk tabOK Try.call25 Try.func25 rfl Try.ntmps25 Try.results25 rfl ?_
  (repeat' (first
    | (intro Q h; refine h ?_; clear h Q)
    | (with_reducible refine bcase_true ?_)
    | (with_reducible refine bcase_false ?_)
    | (refine bcase_mk (fun hb => ?_) (fun hb => ?_) <;> (try simp only [nS, nT, eq_self, reduceCtorEq] at hb))
    | refine nil_mk (fun hz => ?_) ?_
    | refine cp_full (by first | with_reducible rfl | omega | ((try simp only [wS]); omega) | rfl) (by first | with_reducible rfl | omega | ((try simp only [wS]); omega) | rfl) (by first | with_reducible rfl | omega | ((try simp only [wS]); omega) | rfl) ?_
    | refine draw_mk (by decide +kernel) ?_
    | refine seq_go ?_
    | refine And.intro (by first | omega | ((try simp only [wS]); omega) | rfl | decide) ?_
    | (fail)
    | omega))
  refine loop_inv (σ := Nat) (fun x => x ≤ m) (fun x => ⟨[(1, .ptr 1 2 0 0), (4, .sl 2 1 0 x none), (8, .val (.int .i64 m)), (9, .val (.int .i64 x))], [gB l, .var [.val (.int .i64 m), .sl 0 4 0 l.length cap], sdB m x (sdF m l x)]⟩) (fun x => m - x) (0) ?_ ?_ ?_
  · omega
  · (apply le_mk [some 0, some 1, none]; (focus (iterate 2 (all_goals (repeat' (first | exact sub_dead | exact fam_same rfl rfl rfl | exact fam_rd rfl rfl | exact fam_ren rfl rfl rfl | (refine fam_app (row_same rfl ?_ ?_) ?_ ?_ ?_ ?_ ?_) | (refine fam_app (row_ren rfl ?_ ?_) ?_ ?_ ?_ ?_ ?_) | exact sub_map rfl | exact map_same rfl | exact map_updc rfl | refine map_updc ?_ | refine map_same ?_ | refine map_mk ?_ ?_ | exact subL_nil | exact trivial | (intro Q h; refine h ?_; clear h Q) | refine And.intro ?_ ?_ | refine subL_cons ?_ ?_ | refine sub_agg ?_ | refine sub_tup ?_ | refine sub_fn ?_ | refine sub_bfn ?_ ?_ | refine var_mk ?_ | refine rd_var ?_ rfl | refine rd_rd ?_ | exact sub_ptr rfl rfl | exact sub_sl rfl rfl rfl | exact sub_refl_val _ _ | exact sub_sb rfl | exact sub_sbl rfl | exact row_same rfl rfl rfl | exact row_ren rfl rfl rfl | exact sub_nil rfl | ((first | refine sub_int ?_ | refine sub_sl rfl rfl ?_ | refine sub_nil ?_ | refine virt_mk ?_ | show (_ : Nat) = _); first | with_reducible rfl | omega | ((try simp only [wS]); omega) | rfl) | apply row_app1 | apply row_app2 | apply row_app1r | refine cells_succ ?_ ?_ | exact cell0 | with_reducible rfl | (refine And.left (b := True) ⟨?_, True.intro⟩; assumption) | refine sub_int ?_ | refine sub_sb ?_ | refine sub_sbl ?_ | refine sub_sl rfl rfl ?_ | (apply row_lit rfl; (focus (refine cells_succ ?_ ?_))) | refine row_same rfl ?_ ?_ | refine row_ren rfl ?_ ?_))))); (any_goals (apply okIx_mk; rfl)))
  rintro z hz
  by_cases hzm : z < m
  · have hd := dist_ok m l cap hl z
    rw [hds z hzm] at hd
    have hdz := hdl z hzm
    have hS := sdF_succ m l z
    have hL := sdF_len m l z
    generalize dsF m l z = D at *
    generalize sdF m l z = R at *
    (repeat' (first
    | (intro Q h; refine h ?_; clear h Q)
    | (with_reducible refine bcase_true ?_)
    | (with_reducible refine bcase_false ?_)
    | (refine bcase_mk (fun hb => ?_) (fun hb => ?_) <;> (try simp only [nS, nT, eq_self, reduceCtorEq] at hb))
    | refine nil_mk (fun hz => ?_) ?_
    | refine cp_full (by first | with_reducible rfl | omega | ((try simp only [wS]); omega) | rfl) (by first | with_reducible rfl | omega | ((try simp only [wS]); omega) | rfl) (by first | with_reducible rfl | omega | ((try simp only [wS]); omega) | rfl) ?_
    | refine draw_mk (by decide +kernel) ?_
    | refine seq_go ?_
    | refine And.intro (by first | omega | ((try simp only [wS]); omega) | rfl | decide) ?_
    | ((first | apply call1 (hd) | apply calld1 (hd)); (focus ((iterate 2 (all_goals (repeat' (first | exact sub_dead | exact fam_same rfl rfl rfl | exact fam_rd rfl rfl | exact fam_ren rfl rfl rfl | (refine fam_app (row_same rfl ?_ ?_) ?_ ?_ ?_ ?_ ?_) | (refine fam_app (row_ren rfl ?_ ?_) ?_ ?_ ?_ ?_ ?_) | exact sub_map rfl | exact map_same rfl | exact map_updc rfl | refine map_updc ?_ | refine map_same ?_ | refine map_mk ?_ ?_ | exact subL_nil | exact trivial | (intro Q h; refine h ?_; clear h Q) | refine And.intro ?_ ?_ | refine subL_cons ?_ ?_ | refine sub_agg ?_ | refine sub_tup ?_ | refine sub_fn ?_ | refine sub_bfn ?_ ?_ | refine var_mk ?_ | refine rd_var ?_ rfl | refine rd_rd ?_ | exact sub_ptr rfl rfl | exact sub_sl rfl rfl rfl | exact sub_refl_val _ _ | exact sub_sb rfl | exact sub_sbl rfl | exact row_same rfl rfl rfl | exact row_ren rfl rfl rfl | exact sub_nil rfl | ((first | refine sub_int ?_ | refine sub_sl rfl rfl ?_ | refine sub_nil ?_ | refine virt_mk ?_ | show (_ : Nat) = _); first | with_reducible rfl | omega | ((try simp only [wS]); omega) | rfl) | apply row_app1 | apply row_app2 | apply row_app1r | refine cells_succ ?_ ?_ | exact cell0 | with_reducible rfl | (refine And.left (b := True) ⟨?_, True.intro⟩; assumption) | refine sub_int ?_ | refine sub_sb ?_ | refine sub_sbl ?_ | refine sub_sl rfl rfl ?_ | (apply row_lit rfl; (focus (refine cells_succ ?_ ?_))) | refine row_same rfl ?_ ?_ | refine row_ren rfl ?_ ?_)))); done)); (try (any_goals (first | (apply nodup_mk; rfl) | (apply nodup_mk2; rfl) | (apply nodup_mk3; rfl)))))
    | (apply next_sub (Subtype.mk (z + 1) (by first | omega | (simp only; omega))); (focus (rw [hS]; apply le_mk [some 0, some 1, some 5]; (focus (iterate 2 (all_goals (repeat' (first | exact sub_dead | exact fam_same rfl rfl rfl | exact fam_rd rfl rfl | exact fam_ren rfl rfl rfl | (refine fam_app (row_same rfl ?_ ?_) ?_ ?_ ?_ ?_ ?_) | (refine fam_app (row_ren rfl ?_ ?_) ?_ ?_ ?_ ?_ ?_) | exact sub_map rfl | exact map_same rfl | exact map_updc rfl | refine map_updc ?_ | refine map_same ?_ | refine map_mk ?_ ?_ | exact subL_nil | exact trivial | (intro Q h; refine h ?_; clear h Q) | refine And.intro ?_ ?_ | refine subL_cons ?_ ?_ | refine sub_agg ?_ | refine sub_tup ?_ | refine sub_fn ?_ | refine sub_bfn ?_ ?_ | refine var_mk ?_ | refine rd_var ?_ rfl | refine rd_rd ?_ | exact sub_ptr rfl rfl | exact sub_sl rfl rfl rfl | exact sub_refl_val _ _ | exact sub_sb rfl | exact sub_sbl rfl | exact row_same rfl rfl rfl | exact row_ren rfl rfl rfl | exact sub_nil rfl | ((first | refine sub_int ?_ | refine sub_sl rfl rfl ?_ | refine sub_nil ?_ | refine virt_mk ?_ | show (_ : Nat) = _); first | with_reducible rfl | omega | ((try simp only [wS]); omega) | rfl) | apply row_app1 | apply row_app2 | apply row_app1r | refine cells_succ ?_ ?_ | exact cell0 | with_reducible rfl | (refine And.left (b := True) ⟨?_, True.intro⟩; assumption) | refine sub_int ?_ | refine sub_sb ?_ | refine sub_sbl ?_ | refine sub_sl rfl rfl ?_ | (apply row_lit rfl; (focus (refine cells_succ ?_ ?_))) | refine row_same rfl ?_ ?_ | refine row_ren rfl ?_ ?_))))); (any_goals (apply okIx_mk; rfl)))); (all_goals (try (first | omega | (simp only; omega)))))
    | omega))
    all_goals (exact fam_app (l := D) (row_ren rfl rfl rfl) rfl rfl hL.symm rfl rfl)
  · have hkk : m = z := by omega
    subst hkk
    (repeat' (first
    | (intro Q h; refine h ?_; clear h Q)
    | (with_reducible refine bcase_true ?_)
    | (with_reducible refine bcase_false ?_)
    | (refine bcase_mk (fun hb => ?_) (fun hb => ?_) <;> (try simp only [nS, nT, eq_self, reduceCtorEq] at hb))
    | refine nil_mk (fun hz => ?_) ?_
    | refine cp_full (by first | with_reducible rfl | omega | ((try simp only [wS]); omega) | rfl) (by first | with_reducible rfl | omega | ((try simp only [wS]); omega) | rfl) (by first | with_reducible rfl | omega | ((try simp only [wS]); omega) | rfl) ?_
    | refine draw_mk (by decide +kernel) ?_
    | refine seq_go ?_
    | refine And.intro (by first | omega | ((try simp only [wS]); omega) | rfl | decide) ?_
    | (apply ret_mk [some 0, some 2]; (focus (iterate 2 (all_goals (repeat' (first | exact sub_dead | exact fam_same rfl rfl rfl | exact fam_rd rfl rfl | exact fam_ren rfl rfl rfl | (refine fam_app (row_same rfl ?_ ?_) ?_ ?_ ?_ ?_ ?_) | (refine fam_app (row_ren rfl ?_ ?_) ?_ ?_ ?_ ?_ ?_) | exact sub_map rfl | exact map_same rfl | exact map_updc rfl | refine map_updc ?_ | refine map_same ?_ | refine map_mk ?_ ?_ | exact subL_nil | exact trivial | (intro Q h; refine h ?_; clear h Q) | refine And.intro ?_ ?_ | refine subL_cons ?_ ?_ | refine sub_agg ?_ | refine sub_tup ?_ | refine sub_fn ?_ | refine sub_bfn ?_ ?_ | refine var_mk ?_ | refine rd_var ?_ rfl | refine rd_rd ?_ | exact sub_ptr rfl rfl | exact sub_sl rfl rfl rfl | exact sub_refl_val _ _ | exact sub_sb rfl | exact sub_sbl rfl | exact row_same rfl rfl rfl | exact row_ren rfl rfl rfl | exact sub_nil rfl | ((first | refine sub_int ?_ | refine sub_sl rfl rfl ?_ | refine sub_nil ?_ | refine virt_mk ?_ | show (_ : Nat) = _); first | with_reducible rfl | omega | ((try simp only [wS]); omega) | rfl) | apply row_app1 | apply row_app2 | apply row_app1r | refine cells_succ ?_ ?_ | exact cell0 | with_reducible rfl | (refine And.left (b := True) ⟨?_, True.intro⟩; assumption) | refine sub_int ?_ | refine sub_sb ?_ | refine sub_sbl ?_ | refine sub_sl rfl rfl ?_ | (apply row_lit rfl; (focus (refine cells_succ ?_ ?_))) | refine row_same rfl ?_ ?_ | refine row_ren rfl ?_ ?_))))); (any_goals (apply okIx_mk; rfl)))
    | omega))
end Go.Vx.L18

/- Lemmas of a small executor for the model, and contracts of functions, used for the law that this claim proves. No condition. -/
import Derived.Test.YtgpgmoodfnamjaaBA2
set_option linter.unusedSimpArgs false
set_option linter.unusedVariables false
set_option maxRecDepth 100000
namespace Go.Vx.L18
open Go Go.Proofs
def hasB (n : Int) (l : List Ed) (a : Int) : Bool := decide (ckC n l = 0 ∧ 0 ≤ a ∧ a < n)
theorem has_ok (n : Int) (l : List Ed) (cap : Option Nat) (hl : l.length ≤ maxLen) (a : Int) :
    Runs Try.prog 38 [gA n l cap, .val (.int .i64 a)] [gB l] (Det (.sb (hasB n l a)) [gB l]) := by
  refine Runs.mk tabOK Try.call38 Try.func38 rfl Try.ntmps38 Try.results38 rfl ?_
  (repeat' (first
    | (intro Q h; refine h ?_; clear h Q)
    | (with_reducible refine bcase_true ?_)
    | (with_reducible refine bcase_false ?_)
    | (refine bcase_mk (fun hb => ?_) (fun hb => ?_) <;> (try simp only [nS, nT, eq_self, reduceCtorEq] at hb))
    | refine nil_mk (fun hz => ?_) ?_
    | refine cp_full (by first | with_reducible rfl | omega | ((try simp only [wS]); omega) | rfl) (by first | with_reducible rfl | omega | ((try simp only [wS]); omega) | rfl) (by first | with_reducible rfl | omega | ((try simp only [wS]); omega) | rfl) ?_
    | refine draw_mk (by decide +kernel) ?_
    | refine seq_go ?_
    | refine And.intro (by first | omega | ((try simp only [wS]); omega) | rfl | decide) ?_
    | ((first | apply call1 (check_ok _ _ _ hl) | apply calld1 (check_ok _ _ _ hl)); (focus (iterate 2 (all_goals (repeat' (first | exact sub_dead | exact sub_map rfl | exact map_same rfl | exact map_updc rfl | refine map_updc ?_ | refine map_same ?_ | refine map_mk ?_ ?_ | exact subL_nil | exact trivial | (intro Q h; refine h ?_; clear h Q) | refine And.intro ?_ ?_ | refine subL_cons ?_ ?_ | refine sub_agg ?_ | refine sub_tup ?_ | refine sub_fn ?_ | refine sub_bfn ?_ ?_ | refine var_mk ?_ | refine rd_var ?_ rfl | refine rd_rd ?_ | exact sub_ptr rfl rfl | exact sub_sl rfl rfl rfl | exact sub_refl_val _ _ | exact sub_sb rfl | exact sub_sbl rfl | exact row_same rfl rfl rfl | exact row_ren rfl rfl rfl | exact sub_nil rfl | ((first | refine sub_int ?_ | refine sub_sl rfl rfl ?_ | refine sub_nil ?_ | refine virt_mk ?_ | show (_ : Nat) = _); first | with_reducible rfl | omega | ((try simp only [wS]); omega) | rfl) | apply row_app1 | apply row_app2 | apply row_app1r | refine cells_succ ?_ ?_ | exact cell0 | with_reducible rfl | (refine And.left (b := True) ⟨?_, True.intro⟩; assumption) | refine sub_int ?_ | refine sub_sb ?_ | refine sub_sbl ?_ | refine sub_sl rfl rfl ?_ | (apply row_lit rfl; (focus (refine cells_succ ?_ ?_))) | refine row_same rfl ?_ ?_ | refine row_ren rfl ?_ ?_))))); (try (any_goals (first | (apply nodup_mk; rfl) | (apply nodup_mk2; rfl) | (apply nodup_mk3; rfl)))))
    | (apply ret_mk [some 0]; (focus (iterate 2 (all_goals (repeat' (first | exact sub_dead | exact sub_map rfl | exact map_same rfl | exact map_updc rfl | refine map_updc ?_ | refine map_same ?_ | refine map_mk ?_ ?_ | exact subL_nil | exact trivial | (intro Q h; refine h ?_; clear h Q) | refine And.intro ?_ ?_ | refine subL_cons ?_ ?_ | refine sub_agg ?_ | refine sub_tup ?_ | refine sub_fn ?_ | refine sub_bfn ?_ ?_ | refine var_mk ?_ | refine rd_var ?_ rfl | refine rd_rd ?_ | exact sub_ptr rfl rfl | exact sub_sl rfl rfl rfl | exact sub_refl_val _ _ | exact sub_sb rfl | exact sub_sbl rfl | exact row_same rfl rfl rfl | exact row_ren rfl rfl rfl | exact sub_nil rfl | ((first | refine sub_int ?_ | refine sub_sl rfl rfl ?_ | refine sub_nil ?_ | refine virt_mk ?_ | show (_ : Nat) = _); first | with_reducible rfl | omega | ((try simp only [wS]); omega) | rfl) | apply row_app1 | apply row_app2 | apply row_app1r | refine cells_succ ?_ ?_ | exact cell0 | with_reducible rfl | (refine And.left (b := True) ⟨?_, True.intro⟩; assumption) | refine sub_int ?_ | refine sub_sb ?_ | refine sub_sbl ?_ | refine sub_sl rfl rfl ?_ | (apply row_lit rfl; (focus (refine cells_succ ?_ ?_))) | refine row_same rfl ?_ ?_ | refine row_ren rfl ?_ ?_))))); (any_goals (apply okIx_mk; rfl)))
    | omega))
  all_goals (simp_all [hasB] <;> omega)
def peerL : List Ed → Int → Int → Int × Int × Bool
  | [], _, _ => (0, 0, false)
  | e :: r, a, p => if e.a = a ∧ e.pa = p then (e.b, e.pb, true) else if e.b = a ∧ e.pb = p then (e.a, e.pa, true) else peerL r a p
def peerF (n : Int) (l : List Ed) (a p : Int) : Int × Int × Bool := if hasB n l a then peerL l a p else (0, 0, false)
abbrev peerA (x : Int × Int × Bool) : AV := .tup [.val (.int .i64 x.1), .val (.int .i64 x.2.1), .sb x.2.2]
theorem peer_ok (n : Int) (l : List Ed) (cap : Option Nat) (hl : l.length ≤ maxLen) (a p : Int) :
    Runs Try.prog 28 [gA n l cap, .val (.int .i64 a), .val (.int .i64 p)] [gB l] (Det (peerA (peerF n l a p)) [gB l]) := by
  have hmx : maxLen = 9223372036854775807 := by decide
  refine Runs.mk tabOK Try.call28 Try.func28 rfl Try.ntmps28 Try.results28 rfl ?_
  (repeat' (first
    | (intro Q h; refine h ?_; clear h Q)
    | (with_reducible refine bcase_true ?_)
    | (with_reducible refine bcase_false ?_)
    | (refine bcase_mk (fun hb => ?_) (fun hb => ?_) <;> (try simp only [nS, nT, eq_self, reduceCtorEq] at hb))
    | refine nil_mk (fun hz => ?_) ?_
    | refine cp_full (by first | with_reducible rfl | omega | ((try simp only [wS]); omega) | rfl) (by first | with_reducible rfl | omega | ((try simp only [wS]); omega) | rfl) (by first | with_reducible rfl | omega | ((try simp only [wS]); omega) | rfl) ?_
    | refine draw_mk (by decide +kernel) ?_
    | refine seq_go ?_
    | refine And.intro (by first | omega | ((try simp only [wS]); omega) | rfl | decide) ?_
    | ((first | apply call1 (has_ok _ _ _ hl _) | apply calld1 (has_ok _ _ _ hl _)); (focus (iterate 2 (all_goals (repeat' (first | exact sub_dead | exact sub_map rfl | exact map_same rfl | exact map_updc rfl | refine map_updc ?_ | refine map_same ?_ | refine map_mk ?_ ?_ | exact subL_nil | exact trivial | (intro Q h; refine h ?_; clear h Q) | refine And.intro ?_ ?_ | refine subL_cons ?_ ?_ | refine sub_agg ?_ | refine sub_tup ?_ | refine sub_fn ?_ | refine sub_bfn ?_ ?_ | refine var_mk ?_ | refine rd_var ?_ rfl | refine rd_rd ?_ | exact sub_ptr rfl rfl | exact sub_sl rfl rfl rfl | exact sub_refl_val _ _ | exact sub_sb rfl | exact sub_sbl rfl | exact row_same rfl rfl rfl | exact row_ren rfl rfl rfl | exact sub_nil rfl | ((first | refine sub_int ?_ | refine sub_sl rfl rfl ?_ | refine sub_nil ?_ | refine virt_mk ?_ | show (_ : Nat) = _); first | with_reducible rfl | omega | ((try simp only [wS]); omega) | rfl) | apply row_app1 | apply row_app2 | apply row_app1r | refine cells_succ ?_ ?_ | exact cell0 | with_reducible rfl | (refine And.left (b := True) ⟨?_, True.intro⟩; assumption) | refine sub_int ?_ | refine sub_sb ?_ | refine sub_sbl ?_ | refine sub_sl rfl rfl ?_ | (apply row_lit rfl; (focus (refine cells_succ ?_ ?_))) | refine row_same rfl ?_ ?_ | refine row_ren rfl ?_ ?_))))); (try (any_goals (first | (apply nodup_mk; rfl) | (apply nodup_mk2; rfl) | (apply nodup_mk3; rfl)))))
    | (apply ret_mk [some 0]; (focus (iterate 2 (all_goals (repeat' (first | exact sub_dead | exact sub_map rfl | exact map_same rfl | exact map_updc rfl | refine map_updc ?_ | refine map_same ?_ | refine map_mk ?_ ?_ | exact subL_nil | exact trivial | (intro Q h; refine h ?_; clear h Q) | refine And.intro ?_ ?_ | refine subL_cons ?_ ?_ | refine sub_agg ?_ | refine sub_tup ?_ | refine sub_fn ?_ | refine sub_bfn ?_ ?_ | refine var_mk ?_ | refine rd_var ?_ rfl | refine rd_rd ?_ | exact sub_ptr rfl rfl | exact sub_sl rfl rfl rfl | exact sub_refl_val _ _ | exact sub_sb rfl | exact sub_sbl rfl | exact row_same rfl rfl rfl | exact row_ren rfl rfl rfl | exact sub_nil rfl | ((first | refine sub_int ?_ | refine sub_sl rfl rfl ?_ | refine sub_nil ?_ | refine virt_mk ?_ | show (_ : Nat) = _); first | with_reducible rfl | omega | ((try simp only [wS]); omega) | rfl) | apply row_app1 | apply row_app2 | apply row_app1r | refine cells_succ ?_ ?_ | exact cell0 | with_reducible rfl | (refine And.left (b := True) ⟨?_, True.intro⟩; assumption) | refine sub_int ?_ | refine sub_sb ?_ | refine sub_sbl ?_ | refine sub_sl rfl rfl ?_ | (apply row_lit rfl; (focus (refine cells_succ ?_ ?_))) | refine row_same rfl ?_ ?_ | refine row_ren rfl ?_ ?_))))); (any_goals (apply okIx_mk; rfl)))
    | omega))
  all_goals (try (simp [peerF, hb]; done))
  refine loop_inv (σ := Nat) (fun x => x ≤ l.length ∧ peerL (l.drop x) a p = peerL l a p) (fun x => ⟨[(1, .val (.int .i64 a)), (2, .val (.int .i64 p)), (16, .sl 0 4 0 l.length cap), (17, .val (.int .i64 l.length)), (18, .val (.int .i64 x))], [gB l]⟩) (fun x => l.length - x) (0) ?_ ?_ ?_
  · simp
  · (apply le_mk [some 0]; (focus (iterate 2 (all_goals (repeat' (first | exact sub_dead | exact sub_map rfl | exact map_same rfl | exact map_updc rfl | refine map_updc ?_ | refine map_same ?_ | refine map_mk ?_ ?_ | exact subL_nil | exact trivial | (intro Q h; refine h ?_; clear h Q) | refine And.intro ?_ ?_ | refine subL_cons ?_ ?_ | refine sub_agg ?_ | refine sub_tup ?_ | refine sub_fn ?_ | refine sub_bfn ?_ ?_ | refine var_mk ?_ | refine rd_var ?_ rfl | refine rd_rd ?_ | exact sub_ptr rfl rfl | exact sub_sl rfl rfl rfl | exact sub_refl_val _ _ | exact sub_sb rfl | exact sub_sbl rfl | exact row_same rfl rfl rfl | exact row_ren rfl rfl rfl | exact sub_nil rfl | ((first | refine sub_int ?_ | refine sub_sl rfl rfl ?_ | refine sub_nil ?_ | refine virt_mk ?_ | show (_ : Nat) = _); first | with_reducible rfl | omega | ((try simp only [wS]); omega) | rfl) | apply row_app1 | apply row_app2 | apply row_app1r | refine cells_succ ?_ ?_ | exact cell0 | with_reducible rfl | (refine And.left (b := True) ⟨?_, True.intro⟩; assumption) | refine sub_int ?_ | refine sub_sb ?_ | refine sub_sbl ?_ | refine sub_sl rfl rfl ?_ | (apply row_lit rfl; (focus (refine cells_succ ?_ ?_))) | refine row_same rfl ?_ ?_ | refine row_ren rfl ?_ ?_))))); (any_goals (apply okIx_mk; rfl)))
  rintro k ⟨hk, ht⟩
  have hC : peerF n l a p = peerL l a p := by unfold peerF; rw [if_pos hb]
  have hd := drop_cons l k ed0
  clear hb
  (repeat' (first
    | (intro Q h; refine h ?_; clear h Q)
    | (with_reducible refine bcase_true ?_)
    | (with_reducible refine bcase_false ?_)
    | (refine bcase_mk (fun hb => ?_) (fun hb => ?_) <;> (try simp only [nS, nT, eq_self, reduceCtorEq] at hb))
    | refine nil_mk (fun hz => ?_) ?_
    | refine cp_full (by first | with_reducible rfl | omega | ((try simp only [wS]); omega) | rfl) (by first | with_reducible rfl | omega | ((try simp only [wS]); omega) | rfl) (by first | with_reducible rfl | omega | ((try simp only [wS]); omega) | rfl) ?_
    | refine draw_mk (by decide +kernel) ?_
    | refine seq_go ?_
    | refine And.intro (by first | omega | ((try simp only [wS]); omega) | rfl | decide) ?_
    | (apply ret_mk [some 0]; (focus (iterate 2 (all_goals (repeat' (first | exact sub_dead | exact sub_map rfl | exact map_same rfl | exact map_updc rfl | refine map_updc ?_ | refine map_same ?_ | refine map_mk ?_ ?_ | exact subL_nil | exact trivial | (intro Q h; refine h ?_; clear h Q) | refine And.intro ?_ ?_ | refine subL_cons ?_ ?_ | refine sub_agg ?_ | refine sub_tup ?_ | refine sub_fn ?_ | refine sub_bfn ?_ ?_ | refine var_mk ?_ | refine rd_var ?_ rfl | refine rd_rd ?_ | exact sub_ptr rfl rfl | exact sub_sl rfl rfl rfl | exact sub_refl_val _ _ | exact sub_sb rfl | exact sub_sbl rfl | exact row_same rfl rfl rfl | exact row_ren rfl rfl rfl | exact sub_nil rfl | ((first | refine sub_int ?_ | refine sub_sl rfl rfl ?_ | refine sub_nil ?_ | refine virt_mk ?_ | show (_ : Nat) = _); first | with_reducible rfl | omega | ((try simp only [wS]); omega) | rfl) | apply row_app1 | apply row_app2 | apply row_app1r | refine cells_succ ?_ ?_ | exact cell0 | with_reducible rfl | (refine And.left (b := True) ⟨?_, True.intro⟩; assumption) | refine sub_int ?_ | refine sub_sb ?_ | refine sub_sbl ?_ | refine sub_sl rfl rfl ?_ | (apply row_lit rfl; (focus (refine cells_succ ?_ ?_))) | refine row_same rfl ?_ ?_ | refine row_ren rfl ?_ ?_))))); (any_goals (apply okIx_mk; rfl)))
    | (apply next_sub (Subtype.mk (k + 1) _); (focus (apply le_mk [some 0]; (focus (iterate 2 (all_goals (repeat' (first | exact sub_dead | exact sub_map rfl | exact map_same rfl | exact map_updc rfl | refine map_updc ?_ | refine map_same ?_ | refine map_mk ?_ ?_ | exact subL_nil | exact trivial | (intro Q h; refine h ?_; clear h Q) | refine And.intro ?_ ?_ | refine subL_cons ?_ ?_ | refine sub_agg ?_ | refine sub_tup ?_ | refine sub_fn ?_ | refine sub_bfn ?_ ?_ | refine var_mk ?_ | refine rd_var ?_ rfl | refine rd_rd ?_ | exact sub_ptr rfl rfl | exact sub_sl rfl rfl rfl | exact sub_refl_val _ _ | exact sub_sb rfl | exact sub_sbl rfl | exact row_same rfl rfl rfl | exact row_ren rfl rfl rfl | exact sub_nil rfl | ((first | refine sub_int ?_ | refine sub_sl rfl rfl ?_ | refine sub_nil ?_ | refine virt_mk ?_ | show (_ : Nat) = _); first | with_reducible rfl | omega | ((try simp only [wS]); omega) | rfl) | apply row_app1 | apply row_app2 | apply row_app1r | refine cells_succ ?_ ?_ | exact cell0 | with_reducible rfl | (refine And.left (b := True) ⟨?_, True.intro⟩; assumption) | refine sub_int ?_ | refine sub_sb ?_ | refine sub_sbl ?_ | refine sub_sl rfl rfl ?_ | (apply row_lit rfl; (focus (refine cells_succ ?_ ?_))) | refine row_same rfl ?_ ?_ | refine row_ren rfl ?_ ?_))))); (any_goals (apply okIx_mk; rfl)))); (all_goals (try (first | omega | (simp only; omega)))))
    | omega))
  all_goals (try simp only [Nat.zero_add, Int.toNat_natCast] at *)
  all_goals (try rw [hC])
  all_goals (rw [← ht])
  all_goals first
    | (rw [hd (by omega)]; simp_all [peerL]; done)
    | (rw [List.drop_of_length_le (by omega)]; rfl)
    | fail
theorem rpeer_ok (n : Int) (l : List Ed) (cap : Option Nat) (hl : l.length ≤ maxLen) (a p : Int) :
    Runs Try.prog 29 [gA n l cap, .val (.int .i64 a), .val (.int .i64 p)] [gB l] (Det (peerA (peerF n l a p)) [gB l]) := by
  have hmx : maxLen = 9223372036854775807 := by decide
  refine Runs.mk tabOK Try.call29 Try.func29 rfl Try.ntmps29 Try.results29 rfl ?_
  (repeat' (first
    | (intro Q h; refine h ?_; clear h Q)
    | (with_reducible refine bcase_true ?_)
    | (with_reducible refine bcase_false ?_)
    | (refine bcase_mk (fun hb => ?_) (fun hb => ?_) <;> (try simp only [nS, nT, eq_self, reduceCtorEq] at hb))
    | refine nil_mk (fun hz => ?_) ?_
    | refine cp_full (by first | with_reducible rfl | omega | ((try simp only [wS]); omega) | rfl) (by first | with_reducible rfl | omega | ((try simp only [wS]); omega) | rfl) (by first | with_reducible rfl | omega | ((try simp only [wS]); omega) | rfl) ?_
    | refine draw_mk (by decide +kernel) ?_
    | refine seq_go ?_
    | refine And.intro (by first | omega | ((try simp only [wS]); omega) | rfl | decide) ?_
    | ((first | apply call1 (rcheck_ok _ _ _ hl) | apply calld1 (rcheck_ok _ _ _ hl)); (focus (iterate 2 (all_goals (repeat' (first | exact sub_dead | exact sub_map rfl | exact map_same rfl | exact map_updc rfl | refine map_updc ?_ | refine map_same ?_ | refine map_mk ?_ ?_ | exact subL_nil | exact trivial | (intro Q h; refine h ?_; clear h Q) | refine And.intro ?_ ?_ | refine subL_cons ?_ ?_ | refine sub_agg ?_ | refine sub_tup ?_ | refine sub_fn ?_ | refine sub_bfn ?_ ?_ | refine var_mk ?_ | refine rd_var ?_ rfl | refine rd_rd ?_ | exact sub_ptr rfl rfl | exact sub_sl rfl rfl rfl | exact sub_refl_val _ _ | exact sub_sb rfl | exact sub_sbl rfl | exact row_same rfl rfl rfl | exact row_ren rfl rfl rfl | exact sub_nil rfl | ((first | refine sub_int ?_ | refine sub_sl rfl rfl ?_ | refine sub_nil ?_ | refine virt_mk ?_ | show (_ : Nat) = _); first | with_reducible rfl | omega | ((try simp only [wS]); omega) | rfl) | apply row_app1 | apply row_app2 | apply row_app1r | refine cells_succ ?_ ?_ | exact cell0 | with_reducible rfl | (refine And.left (b := True) ⟨?_, True.intro⟩; assumption) | refine sub_int ?_ | refine sub_sb ?_ | refine sub_sbl ?_ | refine sub_sl rfl rfl ?_ | (apply row_lit rfl; (focus (refine cells_succ ?_ ?_))) | refine row_same rfl ?_ ?_ | refine row_ren rfl ?_ ?_))))); (try (any_goals (first | (apply nodup_mk; rfl) | (apply nodup_mk2; rfl) | (apply nodup_mk3; rfl)))))
    | ((first | apply call1 (isNode_ok _ _ _ _) | apply calld1 (isNode_ok _ _ _ _)); (focus (iterate 2 (all_goals (repeat' (first | exact sub_dead | exact sub_map rfl | exact map_same rfl | exact map_updc rfl | refine map_updc ?_ | refine map_same ?_ | refine map_mk ?_ ?_ | exact subL_nil | exact trivial | (intro Q h; refine h ?_; clear h Q) | refine And.intro ?_ ?_ | refine subL_cons ?_ ?_ | refine sub_agg ?_ | refine sub_tup ?_ | refine sub_fn ?_ | refine sub_bfn ?_ ?_ | refine var_mk ?_ | refine rd_var ?_ rfl | refine rd_rd ?_ | exact sub_ptr rfl rfl | exact sub_sl rfl rfl rfl | exact sub_refl_val _ _ | exact sub_sb rfl | exact sub_sbl rfl | exact row_same rfl rfl rfl | exact row_ren rfl rfl rfl | exact sub_nil rfl | ((first | refine sub_int ?_ | refine sub_sl rfl rfl ?_ | refine sub_nil ?_ | refine virt_mk ?_ | show (_ : Nat) = _); first | with_reducible rfl | omega | ((try simp only [wS]); omega) | rfl) | apply row_app1 | apply row_app2 | apply row_app1r | refine cells_succ ?_ ?_ | exact cell0 | with_reducible rfl | (refine And.left (b := True) ⟨?_, True.intro⟩; assumption) | refine sub_int ?_ | refine sub_sb ?_ | refine sub_sbl ?_ | refine sub_sl rfl rfl ?_ | (apply row_lit rfl; (focus (refine cells_succ ?_ ?_))) | refine row_same rfl ?_ ?_ | refine row_ren rfl ?_ ?_))))); (try (any_goals (first | (apply nodup_mk; rfl) | (apply nodup_mk2; rfl) | (apply nodup_mk3; rfl)))))
    | (apply ret_mk [some 0]; (focus (iterate 2 (all_goals (repeat' (first | exact sub_dead | exact sub_map rfl | exact map_same rfl | exact map_updc rfl | refine map_updc ?_ | refine map_same ?_ | refine map_mk ?_ ?_ | exact subL_nil | exact trivial | (intro Q h; refine h ?_; clear h Q) | refine And.intro ?_ ?_ | refine subL_cons ?_ ?_ | refine sub_agg ?_ | refine sub_tup ?_ | refine sub_fn ?_ | refine sub_bfn ?_ ?_ | refine var_mk ?_ | refine rd_var ?_ rfl | refine rd_rd ?_ | exact sub_ptr rfl rfl | exact sub_sl rfl rfl rfl | exact sub_refl_val _ _ | exact sub_sb rfl | exact sub_sbl rfl | exact row_same rfl rfl rfl | exact row_ren rfl rfl rfl | exact sub_nil rfl | ((first | refine sub_int ?_ | refine sub_sl rfl rfl ?_ | refine sub_nil ?_ | refine virt_mk ?_ | show (_ : Nat) = _); first | with_reducible rfl | omega | ((try simp only [wS]); omega) | rfl) | apply row_app1 | apply row_app2 | apply row_app1r | refine cells_succ ?_ ?_ | exact cell0 | with_reducible rfl | (refine And.left (b := True) ⟨?_, True.intro⟩; assumption) | refine sub_int ?_ | refine sub_sb ?_ | refine sub_sbl ?_ | refine sub_sl rfl rfl ?_ | (apply row_lit rfl; (focus (refine cells_succ ?_ ?_))) | refine row_same rfl ?_ ?_ | refine row_ren rfl ?_ ?_))))); (any_goals (apply okIx_mk; rfl)))
    | omega))
  all_goals (try (unfold peerF hasB; rw [if_neg (by simp only [decide_eq_true_eq]; omega)]; done))
  refine loop_inv (σ := Nat) (fun x => x ≤ l.length ∧ peerL (l.drop x) a p = peerL l a p) (fun x => ⟨[(1, .val (.int .i64 a)), (2, .val (.int .i64 p)), (3, .ptr 1 2 0 0), (9, .val (.int .i64 x))], [gB l, .var [.val (.int .i64 n), .sl 0 4 0 l.length cap]]⟩) (fun x => l.length - x) (0) ?_ ?_ ?_
  · simp
  · (apply le_mk [some 0, some 1]; (focus (iterate 2 (all_goals (repeat' (first | exact sub_dead | exact sub_map rfl | exact map_same rfl | exact map_updc rfl | refine map_updc ?_ | refine map_same ?_ | refine map_mk ?_ ?_ | exact subL_nil | exact trivial | (intro Q h; refine h ?_; clear h Q) | refine And.intro ?_ ?_ | refine subL_cons ?_ ?_ | refine sub_agg ?_ | refine sub_tup ?_ | refine sub_fn ?_ | refine sub_bfn ?_ ?_ | refine var_mk ?_ | refine rd_var ?_ rfl | refine rd_rd ?_ | exact sub_ptr rfl rfl | exact sub_sl rfl rfl rfl | exact sub_refl_val _ _ | exact sub_sb rfl | exact sub_sbl rfl | exact row_same rfl rfl rfl | exact row_ren rfl rfl rfl | exact sub_nil rfl | ((first | refine sub_int ?_ | refine sub_sl rfl rfl ?_ | refine sub_nil ?_ | refine virt_mk ?_ | show (_ : Nat) = _); first | with_reducible rfl | omega | ((try simp only [wS]); omega) | rfl) | apply row_app1 | apply row_app2 | apply row_app1r | refine cells_succ ?_ ?_ | exact cell0 | with_reducible rfl | (refine And.left (b := True) ⟨?_, True.intro⟩; assumption) | refine sub_int ?_ | refine sub_sb ?_ | refine sub_sbl ?_ | refine sub_sl rfl rfl ?_ | (apply row_lit rfl; (focus (refine cells_succ ?_ ?_))) | refine row_same rfl ?_ ?_ | refine row_ren rfl ?_ ?_))))); (any_goals (apply okIx_mk; rfl)))
  rintro k ⟨hk, ht⟩
  rename_i hc
  have hC : peerF n l a p = peerL l a p := by unfold peerF hasB; rw [if_pos (decide_eq_true ⟨by omega, by omega, by omega⟩)]
  have hd := drop_cons l k ed0
  clear hb
  (repeat' (first
    | (intro Q h; refine h ?_; clear h Q)
    | (with_reducible refine bcase_true ?_)
    | (with_reducible refine bcase_false ?_)
    | (refine bcase_mk (fun hb => ?_) (fun hb => ?_) <;> (try simp only [nS, nT, eq_self, reduceCtorEq] at hb))
    | refine nil_mk (fun hz => ?_) ?_
    | refine cp_full (by first | with_reducible rfl | omega | ((try simp only [wS]); omega) | rfl) (by first | with_reducible rfl | omega | ((try simp only [wS]); omega) | rfl) (by first | with_reducible rfl | omega | ((try simp only [wS]); omega) | rfl) ?_
    | refine draw_mk (by decide +kernel) ?_
    | refine seq_go ?_
    | refine And.intro (by first | omega | ((try simp only [wS]); omega) | rfl | decide) ?_
    | (apply ret_mk [some 0]; (focus (iterate 2 (all_goals (repeat' (first | exact sub_dead | exact sub_map rfl | exact map_same rfl | exact map_updc rfl | refine map_updc ?_ | refine map_same ?_ | refine map_mk ?_ ?_ | exact subL_nil | exact trivial | (intro Q h; refine h ?_; clear h Q) | refine And.intro ?_ ?_ | refine subL_cons ?_ ?_ | refine sub_agg ?_ | refine sub_tup ?_ | refine sub_fn ?_ | refine sub_bfn ?_ ?_ | refine var_mk ?_ | refine rd_var ?_ rfl | refine rd_rd ?_ | exact sub_ptr rfl rfl | exact sub_sl rfl rfl rfl | exact sub_refl_val _ _ | exact sub_sb rfl | exact sub_sbl rfl | exact row_same rfl rfl rfl | exact row_ren rfl rfl rfl | exact sub_nil rfl | ((first | refine sub_int ?_ | refine sub_sl rfl rfl ?_ | refine sub_nil ?_ | refine virt_mk ?_ | show (_ : Nat) = _); first | with_reducible rfl | omega | ((try simp only [wS]); omega) | rfl) | apply row_app1 | apply row_app2 | apply row_app1r | refine cells_succ ?_ ?_ | exact cell0 | with_reducible rfl | (refine And.left (b := True) ⟨?_, True.intro⟩; assumption) | refine sub_int ?_ | refine sub_sb ?_ | refine sub_sbl ?_ | refine sub_sl rfl rfl ?_ | (apply row_lit rfl; (focus (refine cells_succ ?_ ?_))) | refine row_same rfl ?_ ?_ | refine row_ren rfl ?_ ?_))))); (any_goals (apply okIx_mk; rfl)))
    | (apply next_sub (Subtype.mk (k + 1) _); (focus (apply le_mk [some 0, some 1]; (focus (iterate 2 (all_goals (repeat' (first | exact sub_dead | exact sub_map rfl | exact map_same rfl | exact map_updc rfl | refine map_updc ?_ | refine map_same ?_ | refine map_mk ?_ ?_ | exact subL_nil | exact trivial | (intro Q h; refine h ?_; clear h Q) | refine And.intro ?_ ?_ | refine subL_cons ?_ ?_ | refine sub_agg ?_ | refine sub_tup ?_ | refine sub_fn ?_ | refine sub_bfn ?_ ?_ | refine var_mk ?_ | refine rd_var ?_ rfl | refine rd_rd ?_ | exact sub_ptr rfl rfl | exact sub_sl rfl rfl rfl | exact sub_refl_val _ _ | exact sub_sb rfl | exact sub_sbl rfl | exact row_same rfl rfl rfl | exact row_ren rfl rfl rfl | exact sub_nil rfl | ((first | refine sub_int ?_ | refine sub_sl rfl rfl ?_ | refine sub_nil ?_ | refine virt_mk ?_ | show (_ : Nat) = _); first | with_reducible rfl | omega | ((try simp only [wS]); omega) | rfl) | apply row_app1 | apply row_app2 | apply row_app1r | refine cells_succ ?_ ?_ | exact cell0 | with_reducible rfl | (refine And.left (b := True) ⟨?_, True.intro⟩; assumption) | refine sub_int ?_ | refine sub_sb ?_ | refine sub_sbl ?_ | refine sub_sl rfl rfl ?_ | (apply row_lit rfl; (focus (refine cells_succ ?_ ?_))) | refine row_same rfl ?_ ?_ | refine row_ren rfl ?_ ?_))))); (any_goals (apply okIx_mk; rfl)))); (all_goals (try (first | omega | (simp only; omega)))))
    | omega))
  all_goals (try simp only [Nat.zero_add, Int.toNat_natCast] at *)
  all_goals (try rw [hC])
  all_goals (rw [← ht])
  all_goals first
    | (rw [hd (by omega)]; simp_all [peerL]; done)
    | (rw [List.drop_of_length_le (by omega)]; rfl)
    | fail
abbrev iB (rw : Bool) (l : List Int) : Blk := .arr rw 3 1 l.length (intF l)
theorem equal_ok (l m : List Int) (cap cap' : Option Nat) (hl : l.length ≤ maxLen) (hm : m.length ≤ maxLen) :
    Runs Try.prog 14 [.sl 0 1 0 l.length cap, .sl 1 1 0 m.length cap'] [iB false l, iB false m] (Det (.sb (decide (l = m))) [iB false l, iB false m]) := by
  have hmx : maxLen = 9223372036854775807 := by decide
  refine Runs.mk tabOK Try.call14 Try.func14 rfl Try.ntmps14 Try.results14 rfl ?_
  (repeat' (first
    | (intro Q h; refine h ?_; clear h Q)
    | (with_reducible refine bcase_true ?_)
    | (with_reducible refine bcase_false ?_)
    | (refine bcase_mk (fun hb => ?_) (fun hb => ?_) <;> (try simp only [nS, nT, eq_self, reduceCtorEq] at hb))
    | refine nil_mk (fun hz => ?_) ?_
    | refine cp_full (by first | with_reducible rfl | omega | ((try simp only [wS]); omega) | rfl) (by first | with_reducible rfl | omega | ((try simp only [wS]); omega) | rfl) (by first | with_reducible rfl | omega | ((try simp only [wS]); omega) | rfl) ?_
    | refine draw_mk (by decide +kernel) ?_
    | refine seq_go ?_
    | refine And.intro (by first | omega | ((try simp only [wS]); omega) | rfl | decide) ?_
    | (apply ret_mk [some 0, some 1]; (focus (iterate 2 (all_goals (repeat' (first | exact sub_dead | exact sub_map rfl | exact map_same rfl | exact map_updc rfl | refine map_updc ?_ | refine map_same ?_ | refine map_mk ?_ ?_ | exact subL_nil | exact trivial | (intro Q h; refine h ?_; clear h Q) | refine And.intro ?_ ?_ | refine subL_cons ?_ ?_ | refine sub_agg ?_ | refine sub_tup ?_ | refine sub_fn ?_ | refine sub_bfn ?_ ?_ | refine var_mk ?_ | refine rd_var ?_ rfl | refine rd_rd ?_ | exact sub_ptr rfl rfl | exact sub_sl rfl rfl rfl | exact sub_refl_val _ _ | exact sub_sb rfl | exact sub_sbl rfl | exact row_same rfl rfl rfl | exact row_ren rfl rfl rfl | exact sub_nil rfl | ((first | refine sub_int ?_ | refine sub_sl rfl rfl ?_ | refine sub_nil ?_ | refine virt_mk ?_ | show (_ : Nat) = _); first | with_reducible rfl | omega | ((try simp only [wS]); omega) | rfl) | apply row_app1 | apply row_app2 | apply row_app1r | refine cells_succ ?_ ?_ | exact cell0 | with_reducible rfl | (refine And.left (b := True) ⟨?_, True.intro⟩; assumption) | refine sub_int ?_ | refine sub_sb ?_ | refine sub_sbl ?_ | refine sub_sl rfl rfl ?_ | (apply row_lit rfl; (focus (refine cells_succ ?_ ?_))) | refine row_same rfl ?_ ?_ | refine row_ren rfl ?_ ?_))))); (any_goals (apply okIx_mk; rfl)))
    | omega))
  · symm; apply decide_eq_false; rintro rfl; omega
  refine loop_inv (σ := Nat) (fun x => x ≤ l.length ∧ l.take x = m.take x) (fun x => ⟨[(0, .sl 0 1 0 l.length cap), (1, .sl 1 1 0 m.length cap'), (12, .val (.int .i64 l.length)), (13, .val (.int .i64 x))], [iB false l, iB false m]⟩) (fun x => l.length - x) (0) ?_ ?_ ?_
  · simp
  · (apply le_mk [some 0, some 1]; (focus (iterate 2 (all_goals (repeat' (first | exact sub_dead | exact sub_map rfl | exact map_same rfl | exact map_updc rfl | refine map_updc ?_ | refine map_same ?_ | refine map_mk ?_ ?_ | exact subL_nil | exact trivial | (intro Q h; refine h ?_; clear h Q) | refine And.intro ?_ ?_ | refine subL_cons ?_ ?_ | refine sub_agg ?_ | refine sub_tup ?_ | refine sub_fn ?_ | refine sub_bfn ?_ ?_ | refine var_mk ?_ | refine rd_var ?_ rfl | refine rd_rd ?_ | exact sub_ptr rfl rfl | exact sub_sl rfl rfl rfl | exact sub_refl_val _ _ | exact sub_sb rfl | exact sub_sbl rfl | exact row_same rfl rfl rfl | exact row_ren rfl rfl rfl | exact sub_nil rfl | ((first | refine sub_int ?_ | refine sub_sl rfl rfl ?_ | refine sub_nil ?_ | refine virt_mk ?_ | show (_ : Nat) = _); first | with_reducible rfl | omega | ((try simp only [wS]); omega) | rfl) | apply row_app1 | apply row_app2 | apply row_app1r | refine cells_succ ?_ ?_ | exact cell0 | with_reducible rfl | (refine And.left (b := True) ⟨?_, True.intro⟩; assumption) | refine sub_int ?_ | refine sub_sb ?_ | refine sub_sbl ?_ | refine sub_sl rfl rfl ?_ | (apply row_lit rfl; (focus (refine cells_succ ?_ ?_))) | refine row_same rfl ?_ ?_ | refine row_ren rfl ?_ ?_))))); (any_goals (apply okIx_mk; rfl)))
  rintro k ⟨hk, ht⟩
  (repeat' (first
    | (intro Q h; refine h ?_; clear h Q)
    | (with_reducible refine bcase_true ?_)
    | (with_reducible refine bcase_false ?_)
    | (refine bcase_mk (fun hb => ?_) (fun hb => ?_) <;> (try simp only [nS, nT, eq_self, reduceCtorEq] at hb))
    | refine nil_mk (fun hz => ?_) ?_
    | refine cp_full (by first | with_reducible rfl | omega | ((try simp only [wS]); omega) | rfl) (by first | with_reducible rfl | omega | ((try simp only [wS]); omega) | rfl) (by first | with_reducible rfl | omega | ((try simp only [wS]); omega) | rfl) ?_
    | refine draw_mk (by decide +kernel) ?_
    | refine seq_go ?_
    | refine And.intro (by first | omega | ((try simp only [wS]); omega) | rfl | decide) ?_
    | (apply ret_mk [some 0, some 1]; (focus (iterate 2 (all_goals (repeat' (first | exact sub_dead | exact sub_map rfl | exact map_same rfl | exact map_updc rfl | refine map_updc ?_ | refine map_same ?_ | refine map_mk ?_ ?_ | exact subL_nil | exact trivial | (intro Q h; refine h ?_; clear h Q) | refine And.intro ?_ ?_ | refine subL_cons ?_ ?_ | refine sub_agg ?_ | refine sub_tup ?_ | refine sub_fn ?_ | refine sub_bfn ?_ ?_ | refine var_mk ?_ | refine rd_var ?_ rfl | refine rd_rd ?_ | exact sub_ptr rfl rfl | exact sub_sl rfl rfl rfl | exact sub_refl_val _ _ | exact sub_sb rfl | exact sub_sbl rfl | exact row_same rfl rfl rfl | exact row_ren rfl rfl rfl | exact sub_nil rfl | ((first | refine sub_int ?_ | refine sub_sl rfl rfl ?_ | refine sub_nil ?_ | refine virt_mk ?_ | show (_ : Nat) = _); first | with_reducible rfl | omega | ((try simp only [wS]); omega) | rfl) | apply row_app1 | apply row_app2 | apply row_app1r | refine cells_succ ?_ ?_ | exact cell0 | with_reducible rfl | (refine And.left (b := True) ⟨?_, True.intro⟩; assumption) | refine sub_int ?_ | refine sub_sb ?_ | refine sub_sbl ?_ | refine sub_sl rfl rfl ?_ | (apply row_lit rfl; (focus (refine cells_succ ?_ ?_))) | refine row_same rfl ?_ ?_ | refine row_ren rfl ?_ ?_))))); (any_goals (apply okIx_mk; rfl)))
    | (apply next_sub (Subtype.mk (k + 1) _); (focus (apply le_mk [some 0, some 1]; (focus (iterate 2 (all_goals (repeat' (first | exact sub_dead | exact sub_map rfl | exact map_same rfl | exact map_updc rfl | refine map_updc ?_ | refine map_same ?_ | refine map_mk ?_ ?_ | exact subL_nil | exact trivial | (intro Q h; refine h ?_; clear h Q) | refine And.intro ?_ ?_ | refine subL_cons ?_ ?_ | refine sub_agg ?_ | refine sub_tup ?_ | refine sub_fn ?_ | refine sub_bfn ?_ ?_ | refine var_mk ?_ | refine rd_var ?_ rfl | refine rd_rd ?_ | exact sub_ptr rfl rfl | exact sub_sl rfl rfl rfl | exact sub_refl_val _ _ | exact sub_sb rfl | exact sub_sbl rfl | exact row_same rfl rfl rfl | exact row_ren rfl rfl rfl | exact sub_nil rfl | ((first | refine sub_int ?_ | refine sub_sl rfl rfl ?_ | refine sub_nil ?_ | refine virt_mk ?_ | show (_ : Nat) = _); first | with_reducible rfl | omega | ((try simp only [wS]); omega) | rfl) | apply row_app1 | apply row_app2 | apply row_app1r | refine cells_succ ?_ ?_ | exact cell0 | with_reducible rfl | (refine And.left (b := True) ⟨?_, True.intro⟩; assumption) | refine sub_int ?_ | refine sub_sb ?_ | refine sub_sbl ?_ | refine sub_sl rfl rfl ?_ | (apply row_lit rfl; (focus (refine cells_succ ?_ ?_))) | refine row_same rfl ?_ ?_ | refine row_ren rfl ?_ ?_))))); (any_goals (apply okIx_mk; rfl)))); (all_goals (try (first | omega | (simp only; omega)))))
    | omega))
  all_goals (try simp only [Nat.zero_add, Int.toNat_natCast] at *)
  · symm; apply decide_eq_false; rintro rfl; exact hb rfl
  · have h1 : k < l.length := by omega
    have h2 : k < m.length := by omega
    have e1 : l.take (k + 1) = l.take k ++ [l.getD k 0] := by
      rw [List.getD_eq_getElem?_getD, List.getElem?_eq_getElem h1, Option.getD_some]; exact (List.take_append_getElem h1).symm
    have e2 : m.take (k + 1) = m.take k ++ [m.getD k 0] := by
      rw [List.getD_eq_getElem?_getD, List.getElem?_eq_getElem h2, Option.getD_some]; exact (List.take_append_getElem h2).symm
    rw [e1, e2, ht, hb]
  · symm; apply decide_eq_true
    have h1 : l.take k = l := List.take_of_length_le (by omega)
    have h2 : m.take k = m := List.take_of_length_le (by omega)
    rw [← h1, ht, h2]
end Go.Vx.L18

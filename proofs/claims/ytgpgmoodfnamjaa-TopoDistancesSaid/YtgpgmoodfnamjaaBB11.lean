/- Lemmas of a small executor for the model, and contracts of functions, used for the law that this claim proves. No condition. -/
import Derived.Test.YtgpgmoodfnamjaaBB10
import Derived.Test.YtgpgmoodfnamjaaBB8
set_option linter.unusedSimpArgs false
set_option linter.unusedVariables false
set_option maxRecDepth 100000
namespace Go.Vx.L18
open Go Go.Proofs
/-- The room of a path's slice. -/
def capP : Nat → Option Nat
  | 0 => some 1
  | _ + 1 => none
def capL : Nat → Option Nat
  | 1 => some 1
  | _ => none
theorem capL_P (x : Nat) : capL (x + 1) = capP x := by cases x <;> rfl
theorem capP_or (x : Nat) : capP x = none ∨ (capP x = some 1 ∧ x = 0) := by cases x <;> simp [capP]
set_option maxHeartbeats 1000000 in
theorem path_ok (n : Int) (l : List Ed) (cap : Option Nat) (hl : l.length ≤ maxLen) (a b : Int) :
    Runs Try.prog 19 [gA n l cap, .val (.int .i64 a), .val (.int .i64 b)] [gB l] (Det (.sl 1 1 0 (ptA n l a b).length (capL (ptA n l a b).length)) [gB l, iB true (ptA n l a b)]) := by
  have hha := has_ok n l cap hl a
  have hhb := has_ok n l cap hl b
  by_cases ha : hasB n l a = true
  rotate_left
  · have e : ptA n l a b = [] := if_neg (fun h => ha h.1)
    have hb' : hasB n l a = false := by simpa using ha
    rw [e]
    rw [hb'] at hha
    refine Runs.mk tabOK Try.call19 Try.func19 rfl Try.ntmps19 Try.results19 rfl ?_
    (repeat' (first
    | (intro Q h; refine h ?_; clear h Q)
    | (with_reducible refine bcase_true ?_)
    | (with_reducible refine bcase_false ?_)
    | (refine bcase_mk (fun hb => ?_) (fun hb => ?_) <;> (try simp only [nS, nT, eq_self, reduceCtorEq] at hb))
    | refine nil_mk (fun hz => ?_) ?_
    | refine draw_mk (by decide +kernel) ?_
    | refine seq_go ?_
    | refine And.intro (by first | omega | ((try simp only [wS]); omega) | rfl | decide) ?_
    | ((first | apply call1 (hha) | apply calld1 (hha)); (focus (iterate 2 (all_goals (repeat' (first | exact sub_dead | exact fam_same rfl rfl rfl | exact fam_rd rfl rfl | exact fam_ren rfl rfl rfl | exact row_nm rfl rfl | (refine row_nm rfl ?_) | exact subL_nil | exact trivial | (intro Q h; refine h ?_; clear h Q) | refine And.intro ?_ ?_ | refine subL_cons ?_ ?_ | refine sub_agg ?_ | refine sub_tup ?_ | refine sub_fn ?_ | refine sub_bfn ?_ ?_ | refine var_mk ?_ | refine rd_var ?_ rfl | refine rd_rd ?_ | exact sub_ptr rfl rfl | exact sub_sl rfl rfl rfl | exact sub_refl_val _ _ | exact sub_sb rfl | exact sub_sbl rfl | exact row_same rfl rfl rfl | exact row_ren rfl rfl rfl | exact sub_nil rfl | ((first | refine sub_int ?_ | refine sub_sl rfl rfl ?_ | refine sub_nil ?_ | refine virt_mk ?_ | show (_ : Nat) = _); first | with_reducible rfl | omega | ((try simp only [wS]); omega) | rfl) | apply row_app1 | apply row_app2 | apply row_app1r | refine cells_succ ?_ ?_ | exact cell0 | with_reducible rfl | (refine And.left (b := True) ⟨?_, True.intro⟩; assumption) | refine sub_int ?_ | refine sub_sb ?_ | refine sub_sbl ?_ | refine sub_sl rfl rfl ?_ | (apply row_lit rfl; (focus (refine cells_succ ?_ ?_))) | refine row_same rfl ?_ ?_ | refine row_ren rfl ?_ ?_))))); (try (any_goals (first | (apply nodup_mk; rfl) | (apply nodup_mk2; rfl) | (apply nodup_mk3; rfl)))))
    | (apply ret_mk [some 0, none]; (focus (iterate 2 (all_goals (repeat' (first | exact sub_dead | exact fam_same rfl rfl rfl | exact fam_rd rfl rfl | exact fam_ren rfl rfl rfl | exact row_nm rfl rfl | (refine row_nm rfl ?_) | exact subL_nil | exact trivial | (intro Q h; refine h ?_; clear h Q) | refine And.intro ?_ ?_ | refine subL_cons ?_ ?_ | refine sub_agg ?_ | refine sub_tup ?_ | refine sub_fn ?_ | refine sub_bfn ?_ ?_ | refine var_mk ?_ | refine rd_var ?_ rfl | refine rd_rd ?_ | exact sub_ptr rfl rfl | exact sub_sl rfl rfl rfl | exact sub_refl_val _ _ | exact sub_sb rfl | exact sub_sbl rfl | exact row_same rfl rfl rfl | exact row_ren rfl rfl rfl | exact sub_nil rfl | ((first | refine sub_int ?_ | refine sub_sl rfl rfl ?_ | refine sub_nil ?_ | refine virt_mk ?_ | show (_ : Nat) = _); first | with_reducible rfl | omega | ((try simp only [wS]); omega) | rfl) | apply row_app1 | apply row_app2 | apply row_app1r | refine cells_succ ?_ ?_ | exact cell0 | with_reducible rfl | (refine And.left (b := True) ⟨?_, True.intro⟩; assumption) | refine sub_int ?_ | refine sub_sb ?_ | refine sub_sbl ?_ | refine sub_sl rfl rfl ?_ | (apply row_lit rfl; (focus (refine cells_succ ?_ ?_))) | refine row_same rfl ?_ ?_ | refine row_ren rfl ?_ ?_))))); (any_goals (apply okIx_mk; rfl)))
    | omega))
  by_cases hb : hasB n l b = true
  rotate_left
  · have e : ptA n l a b = [] := if_neg (fun h => hb h.2)
    have hb' : hasB n l b = false := by simpa using hb
    rw [e]
    rw [hb'] at hhb
    rw [ha] at hha
    have hab : a ≠ b := fun h => by rw [h] at ha; exact hb ha
    refine Runs.mk tabOK Try.call19 Try.func19 rfl Try.ntmps19 Try.results19 rfl ?_
    (repeat' (first
    | (intro Q h; refine h ?_; clear h Q)
    | (with_reducible refine bcase_true ?_)
    | (with_reducible refine bcase_false ?_)
    | (refine bcase_mk (fun hb => ?_) (fun hb => ?_) <;> (try simp only [nS, nT, eq_self, reduceCtorEq] at hb))
    | refine nil_mk (fun hz => ?_) ?_
    | refine draw_mk (by decide +kernel) ?_
    | refine seq_go ?_
    | refine And.intro (by first | omega | ((try simp only [wS]); omega) | rfl | decide) ?_
    | ((first | apply call1 (hha) | apply calld1 (hha)); (focus ((iterate 2 (all_goals (repeat' (first | exact sub_dead | exact fam_same rfl rfl rfl | exact fam_rd rfl rfl | exact fam_ren rfl rfl rfl | exact row_nm rfl rfl | (refine row_nm rfl ?_) | exact subL_nil | exact trivial | (intro Q h; refine h ?_; clear h Q) | refine And.intro ?_ ?_ | refine subL_cons ?_ ?_ | refine sub_agg ?_ | refine sub_tup ?_ | refine sub_fn ?_ | refine sub_bfn ?_ ?_ | refine var_mk ?_ | refine rd_var ?_ rfl | refine rd_rd ?_ | exact sub_ptr rfl rfl | exact sub_sl rfl rfl rfl | exact sub_refl_val _ _ | exact sub_sb rfl | exact sub_sbl rfl | exact row_same rfl rfl rfl | exact row_ren rfl rfl rfl | exact sub_nil rfl | ((first | refine sub_int ?_ | refine sub_sl rfl rfl ?_ | refine sub_nil ?_ | refine virt_mk ?_ | show (_ : Nat) = _); first | with_reducible rfl | omega | ((try simp only [wS]); omega) | rfl) | apply row_app1 | apply row_app2 | apply row_app1r | refine cells_succ ?_ ?_ | exact cell0 | with_reducible rfl | (refine And.left (b := True) ⟨?_, True.intro⟩; assumption) | refine sub_int ?_ | refine sub_sb ?_ | refine sub_sbl ?_ | refine sub_sl rfl rfl ?_ | (apply row_lit rfl; (focus (refine cells_succ ?_ ?_))) | refine row_same rfl ?_ ?_ | refine row_ren rfl ?_ ?_)))); done)); (try (any_goals (first | (apply nodup_mk; rfl) | (apply nodup_mk2; rfl) | (apply nodup_mk3; rfl)))))
    | ((first | apply call1 (hhb) | apply calld1 (hhb)); (focus ((iterate 2 (all_goals (repeat' (first | exact sub_dead | exact fam_same rfl rfl rfl | exact fam_rd rfl rfl | exact fam_ren rfl rfl rfl | exact row_nm rfl rfl | (refine row_nm rfl ?_) | exact subL_nil | exact trivial | (intro Q h; refine h ?_; clear h Q) | refine And.intro ?_ ?_ | refine subL_cons ?_ ?_ | refine sub_agg ?_ | refine sub_tup ?_ | refine sub_fn ?_ | refine sub_bfn ?_ ?_ | refine var_mk ?_ | refine rd_var ?_ rfl | refine rd_rd ?_ | exact sub_ptr rfl rfl | exact sub_sl rfl rfl rfl | exact sub_refl_val _ _ | exact sub_sb rfl | exact sub_sbl rfl | exact row_same rfl rfl rfl | exact row_ren rfl rfl rfl | exact sub_nil rfl | ((first | refine sub_int ?_ | refine sub_sl rfl rfl ?_ | refine sub_nil ?_ | refine virt_mk ?_ | show (_ : Nat) = _); first | with_reducible rfl | omega | ((try simp only [wS]); omega) | rfl) | apply row_app1 | apply row_app2 | apply row_app1r | refine cells_succ ?_ ?_ | exact cell0 | with_reducible rfl | (refine And.left (b := True) ⟨?_, True.intro⟩; assumption) | refine sub_int ?_ | refine sub_sb ?_ | refine sub_sbl ?_ | refine sub_sl rfl rfl ?_ | (apply row_lit rfl; (focus (refine cells_succ ?_ ?_))) | refine row_same rfl ?_ ?_ | refine row_ren rfl ?_ ?_)))); done)); (try (any_goals (first | (apply nodup_mk; rfl) | (apply nodup_mk2; rfl) | (apply nodup_mk3; rfl)))))
    | (apply ret_mk [some 0, none]; (focus (iterate 2 (all_goals (repeat' (first | exact sub_dead | exact fam_same rfl rfl rfl | exact fam_rd rfl rfl | exact fam_ren rfl rfl rfl | exact row_nm rfl rfl | (refine row_nm rfl ?_) | exact subL_nil | exact trivial | (intro Q h; refine h ?_; clear h Q) | refine And.intro ?_ ?_ | refine subL_cons ?_ ?_ | refine sub_agg ?_ | refine sub_tup ?_ | refine sub_fn ?_ | refine sub_bfn ?_ ?_ | refine var_mk ?_ | refine rd_var ?_ rfl | refine rd_rd ?_ | exact sub_ptr rfl rfl | exact sub_sl rfl rfl rfl | exact sub_refl_val _ _ | exact sub_sb rfl | exact sub_sbl rfl | exact row_same rfl rfl rfl | exact row_ren rfl rfl rfl | exact sub_nil rfl | ((first | refine sub_int ?_ | refine sub_sl rfl rfl ?_ | refine sub_nil ?_ | refine virt_mk ?_ | show (_ : Nat) = _); first | with_reducible rfl | omega | ((try simp only [wS]); omega) | rfl) | apply row_app1 | apply row_app2 | apply row_app1r | refine cells_succ ?_ ?_ | exact cell0 | with_reducible rfl | (refine And.left (b := True) ⟨?_, True.intro⟩; assumption) | refine sub_int ?_ | refine sub_sb ?_ | refine sub_sbl ?_ | refine sub_sl rfl rfl ?_ | (apply row_lit rfl; (focus (refine cells_succ ?_ ?_))) | refine row_same rfl ?_ ?_ | refine row_ren rfl ?_ ?_))))); (any_goals (apply okIx_mk; rfl)))
    | omega))
  have e : ptA n l a b = ptF n.toNat l a.toNat b.toNat := if_pos ⟨ha, hb⟩
  rw [e]
  rw [ha] at hha
  rw [hb] at hhb
  simp only [hasB, decide_eq_true_eq] at ha hb
  obtain ⟨hc, ha0, ha1⟩ := ha
  obtain ⟨_, hb0, hb1⟩ := hb
  obtain ⟨m, rfl, hm, hl64, hed⟩ := ckC_parts hc
  obtain ⟨a, rfl⟩ := Int.eq_ofNat_of_zero_le ha0
  obtain ⟨b, rfl⟩ := Int.eq_ofNat_of_zero_le hb0
  simp only [Int.toNat_natCast]
  have hd := dist_ok m l cap hl b
  rw [dsA_node hc (by omega)] at hd
  have hnb := neighbors_ok m l cap hm hl64 fun k hk => hed _ (getD_mem l k ed0 hk)
  have hin := nrF_in hed
  have hlen := nrF_len m l
  have hrow := nrF_row m l hl64
  obtain ⟨hD, hDn⟩ := dsF_is hed hm.2 (a := b) (by omega)
  have hfind := fun v k W hv => row_find (D := dsF m l b) hed (b := b) (v := v) (k := k) (W := W) hv
  have hhas := fun v W hv => row_has hed hD (v := v) (W := W) hv
  have hps := pN_spec hD (a := a) (by omega)
  have hPl := fun k => pL_len (nxC m l (dsF m l b)) a k
  have hPs := fun k => pL_succ (nxC m l (dsF m l b)) a k
  have hpS : ∀ k, pN (nxC m l (dsF m l b)) a (k + 1) = nxC m l (dsF m l b) (pN (nxC m l (dsF m l b)) a k) := fun _ => rfl
  have hp0 : pN (nxC m l (dsF m l b)) a 0 = a := rfl
  have hP0 : pL (nxC m l (dsF m l b)) a 0 = [(a : Int)] := rfl
  have hza : 0 + Int.toNat (a : Int) = a := by omega
  have honly := fun i hi => hD.only (i := i) hi
  have hDl := hD.len
  have hD0 := hD.zero
  unfold ptF
  by_cases hneg : (dsF m l b).getD a 0 < 0
  · rw [if_pos hneg]
    rw [← hza] at hneg
    generalize dsF m l b = D at *
    generalize nrF m l = R at *
    refine Runs.mk tabOK Try.call19 Try.func19 rfl Try.ntmps19 Try.results19 rfl ?_
    (repeat' (first
    | (intro Q h; refine h ?_; clear h Q)
    | (with_reducible refine bcase_true ?_)
    | (with_reducible refine bcase_false ?_)
    | (refine bcase_mk (fun hb => ?_) (fun hb => ?_) <;> (try simp only [nS, nT, eq_self, reduceCtorEq] at hb))
    | refine nil_mk (fun hz => ?_) ?_
    | refine draw_mk (by decide +kernel) ?_
    | refine seq_go ?_
    | refine And.intro (by first | omega | ((try simp only [wS]); omega) | rfl | decide) ?_
    | ((first | apply call1 (hha) | apply calld1 (hha)); (focus ((iterate 2 (all_goals (repeat' (first | exact sub_dead | exact fam_same rfl rfl rfl | exact fam_rd rfl rfl | exact fam_ren rfl rfl rfl | exact row_nm rfl rfl | (refine row_nm rfl ?_) | exact subL_nil | exact trivial | (intro Q h; refine h ?_; clear h Q) | refine And.intro ?_ ?_ | refine subL_cons ?_ ?_ | refine sub_agg ?_ | refine sub_tup ?_ | refine sub_fn ?_ | refine sub_bfn ?_ ?_ | refine var_mk ?_ | refine rd_var ?_ rfl | refine rd_rd ?_ | exact sub_ptr rfl rfl | exact sub_sl rfl rfl rfl | exact sub_refl_val _ _ | exact sub_sb rfl | exact sub_sbl rfl | exact row_same rfl rfl rfl | exact row_ren rfl rfl rfl | exact sub_nil rfl | ((first | refine sub_int ?_ | refine sub_sl rfl rfl ?_ | refine sub_nil ?_ | refine virt_mk ?_ | show (_ : Nat) = _); first | with_reducible rfl | omega | ((try simp only [wS]); omega) | rfl) | apply row_app1 | apply row_app2 | apply row_app1r | refine cells_succ ?_ ?_ | exact cell0 | with_reducible rfl | (refine And.left (b := True) ⟨?_, True.intro⟩; assumption) | refine sub_int ?_ | refine sub_sb ?_ | refine sub_sbl ?_ | refine sub_sl rfl rfl ?_ | (apply row_lit rfl; (focus (refine cells_succ ?_ ?_))) | refine row_same rfl ?_ ?_ | refine row_ren rfl ?_ ?_)))); done)); (try (any_goals (first | (apply nodup_mk; rfl) | (apply nodup_mk2; rfl) | (apply nodup_mk3; rfl)))))
    | ((first | apply call1 (hhb) | apply calld1 (hhb)); (focus ((iterate 2 (all_goals (repeat' (first | exact sub_dead | exact fam_same rfl rfl rfl | exact fam_rd rfl rfl | exact fam_ren rfl rfl rfl | exact row_nm rfl rfl | (refine row_nm rfl ?_) | exact subL_nil | exact trivial | (intro Q h; refine h ?_; clear h Q) | refine And.intro ?_ ?_ | refine subL_cons ?_ ?_ | refine sub_agg ?_ | refine sub_tup ?_ | refine sub_fn ?_ | refine sub_bfn ?_ ?_ | refine var_mk ?_ | refine rd_var ?_ rfl | refine rd_rd ?_ | exact sub_ptr rfl rfl | exact sub_sl rfl rfl rfl | exact sub_refl_val _ _ | exact sub_sb rfl | exact sub_sbl rfl | exact row_same rfl rfl rfl | exact row_ren rfl rfl rfl | exact sub_nil rfl | ((first | refine sub_int ?_ | refine sub_sl rfl rfl ?_ | refine sub_nil ?_ | refine virt_mk ?_ | show (_ : Nat) = _); first | with_reducible rfl | omega | ((try simp only [wS]); omega) | rfl) | apply row_app1 | apply row_app2 | apply row_app1r | refine cells_succ ?_ ?_ | exact cell0 | with_reducible rfl | (refine And.left (b := True) ⟨?_, True.intro⟩; assumption) | refine sub_int ?_ | refine sub_sb ?_ | refine sub_sbl ?_ | refine sub_sl rfl rfl ?_ | (apply row_lit rfl; (focus (refine cells_succ ?_ ?_))) | refine row_same rfl ?_ ?_ | refine row_ren rfl ?_ ?_)))); done)); (try (any_goals (first | (apply nodup_mk; rfl) | (apply nodup_mk2; rfl) | (apply nodup_mk3; rfl)))))
    | ((first | apply call1 (hnb) | apply calld1 (hnb)); (focus ((iterate 2 (all_goals (repeat' (first | exact sub_dead | exact fam_same rfl rfl rfl | exact fam_rd rfl rfl | exact fam_ren rfl rfl rfl | exact row_nm rfl rfl | (refine row_nm rfl ?_) | exact subL_nil | exact trivial | (intro Q h; refine h ?_; clear h Q) | refine And.intro ?_ ?_ | refine subL_cons ?_ ?_ | refine sub_agg ?_ | refine sub_tup ?_ | refine sub_fn ?_ | refine sub_bfn ?_ ?_ | refine var_mk ?_ | refine rd_var ?_ rfl | refine rd_rd ?_ | exact sub_ptr rfl rfl | exact sub_sl rfl rfl rfl | exact sub_refl_val _ _ | exact sub_sb rfl | exact sub_sbl rfl | exact row_same rfl rfl rfl | exact row_ren rfl rfl rfl | exact sub_nil rfl | ((first | refine sub_int ?_ | refine sub_sl rfl rfl ?_ | refine sub_nil ?_ | refine virt_mk ?_ | show (_ : Nat) = _); first | with_reducible rfl | omega | ((try simp only [wS]); omega) | rfl) | apply row_app1 | apply row_app2 | apply row_app1r | refine cells_succ ?_ ?_ | exact cell0 | with_reducible rfl | (refine And.left (b := True) ⟨?_, True.intro⟩; assumption) | refine sub_int ?_ | refine sub_sb ?_ | refine sub_sbl ?_ | refine sub_sl rfl rfl ?_ | (apply row_lit rfl; (focus (refine cells_succ ?_ ?_))) | refine row_same rfl ?_ ?_ | refine row_ren rfl ?_ ?_)))); done)); (try (any_goals (first | (apply nodup_mk; rfl) | (apply nodup_mk2; rfl) | (apply nodup_mk3; rfl)))))
    | ((first | apply call1 (hd) | apply calld1 (hd)); (focus ((iterate 2 (all_goals (repeat' (first | exact sub_dead | exact fam_same rfl rfl rfl | exact fam_rd rfl rfl | exact fam_ren rfl rfl rfl | exact row_nm rfl rfl | (refine row_nm rfl ?_) | exact subL_nil | exact trivial | (intro Q h; refine h ?_; clear h Q) | refine And.intro ?_ ?_ | refine subL_cons ?_ ?_ | refine sub_agg ?_ | refine sub_tup ?_ | refine sub_fn ?_ | refine sub_bfn ?_ ?_ | refine var_mk ?_ | refine rd_var ?_ rfl | refine rd_rd ?_ | exact sub_ptr rfl rfl | exact sub_sl rfl rfl rfl | exact sub_refl_val _ _ | exact sub_sb rfl | exact sub_sbl rfl | exact row_same rfl rfl rfl | exact row_ren rfl rfl rfl | exact sub_nil rfl | ((first | refine sub_int ?_ | refine sub_sl rfl rfl ?_ | refine sub_nil ?_ | refine virt_mk ?_ | show (_ : Nat) = _); first | with_reducible rfl | omega | ((try simp only [wS]); omega) | rfl) | apply row_app1 | apply row_app2 | apply row_app1r | refine cells_succ ?_ ?_ | exact cell0 | with_reducible rfl | (refine And.left (b := True) ⟨?_, True.intro⟩; assumption) | refine sub_int ?_ | refine sub_sb ?_ | refine sub_sbl ?_ | refine sub_sl rfl rfl ?_ | (apply row_lit rfl; (focus (refine cells_succ ?_ ?_))) | refine row_same rfl ?_ ?_ | refine row_ren rfl ?_ ?_)))); done)); (try (any_goals (first | (apply nodup_mk; rfl) | (apply nodup_mk2; rfl) | (apply nodup_mk3; rfl)))))
    | (apply ret_mk [some 0, none]; (focus (iterate 2 (all_goals (repeat' (first | exact sub_dead | exact fam_same rfl rfl rfl | exact fam_rd rfl rfl | exact fam_ren rfl rfl rfl | exact row_nm rfl rfl | (refine row_nm rfl ?_) | exact subL_nil | exact trivial | (intro Q h; refine h ?_; clear h Q) | refine And.intro ?_ ?_ | refine subL_cons ?_ ?_ | refine sub_agg ?_ | refine sub_tup ?_ | refine sub_fn ?_ | refine sub_bfn ?_ ?_ | refine var_mk ?_ | refine rd_var ?_ rfl | refine rd_rd ?_ | exact sub_ptr rfl rfl | exact sub_sl rfl rfl rfl | exact sub_refl_val _ _ | exact sub_sb rfl | exact sub_sbl rfl | exact row_same rfl rfl rfl | exact row_ren rfl rfl rfl | exact sub_nil rfl | ((first | refine sub_int ?_ | refine sub_sl rfl rfl ?_ | refine sub_nil ?_ | refine virt_mk ?_ | show (_ : Nat) = _); first | with_reducible rfl | omega | ((try simp only [wS]); omega) | rfl) | apply row_app1 | apply row_app2 | apply row_app1r | refine cells_succ ?_ ?_ | exact cell0 | with_reducible rfl | (refine And.left (b := True) ⟨?_, True.intro⟩; assumption) | refine sub_int ?_ | refine sub_sb ?_ | refine sub_sbl ?_ | refine sub_sl rfl rfl ?_ | (apply row_lit rfl; (focus (refine cells_succ ?_ ?_))) | refine row_same rfl ?_ ?_ | refine row_ren rfl ?_ ?_))))); (any_goals (apply okIx_mk; rfl)))
    | omega))
  rw [if_neg hneg]
  have hps := hps (by omega)
  obtain ⟨K, hK⟩ := Int.eq_ofNat_of_zero_le (show 0 ≤ (dsF m l b).getD a 0 by omega)
  have hKm := hDn a (by omega)
  rw [hK, Int.toNat_natCast]
  rw [hK] at hps hKm
  rw [← hza] at hneg
  generalize dsF m l b = D at *
  generalize pL (nxC m l D) a = P at *
  generalize hPN : pN (nxC m l D) a = N at *
  generalize nrF m l = R at *
  refine Runs.mk tabOK Try.call19 Try.func19 rfl Try.ntmps19 Try.results19 rfl ?_
  (repeat' (first
    | (intro Q h; refine h ?_; clear h Q)
    | (with_reducible refine bcase_true ?_)
    | (with_reducible refine bcase_false ?_)
    | (refine bcase_mk (fun hb => ?_) (fun hb => ?_) <;> (try simp only [nS, nT, eq_self, reduceCtorEq] at hb))
    | refine nil_mk (fun hz => ?_) ?_
    | refine draw_mk (by decide +kernel) ?_
    | refine seq_go ?_
    | refine And.intro (by first | omega | ((try simp only [wS]); omega) | rfl | decide) ?_
    | ((first | apply call1 (hha) | apply calld1 (hha)); (focus ((iterate 2 (all_goals (repeat' (first | exact sub_dead | exact fam_same rfl rfl rfl | exact fam_rd rfl rfl | exact fam_ren rfl rfl rfl | exact row_nm rfl rfl | (refine row_nm rfl ?_) | exact subL_nil | exact trivial | (intro Q h; refine h ?_; clear h Q) | refine And.intro ?_ ?_ | refine subL_cons ?_ ?_ | refine sub_agg ?_ | refine sub_tup ?_ | refine sub_fn ?_ | refine sub_bfn ?_ ?_ | refine var_mk ?_ | refine rd_var ?_ rfl | refine rd_rd ?_ | exact sub_ptr rfl rfl | exact sub_sl rfl rfl rfl | exact sub_refl_val _ _ | exact sub_sb rfl | exact sub_sbl rfl | exact row_same rfl rfl rfl | exact row_ren rfl rfl rfl | exact sub_nil rfl | ((first | refine sub_int ?_ | refine sub_sl rfl rfl ?_ | refine sub_nil ?_ | refine virt_mk ?_ | show (_ : Nat) = _); first | with_reducible rfl | omega | ((try simp only [wS]); omega) | rfl) | apply row_app1 | apply row_app2 | apply row_app1r | refine cells_succ ?_ ?_ | exact cell0 | with_reducible rfl | (refine And.left (b := True) ⟨?_, True.intro⟩; assumption) | refine sub_int ?_ | refine sub_sb ?_ | refine sub_sbl ?_ | refine sub_sl rfl rfl ?_ | (apply row_lit rfl; (focus (refine cells_succ ?_ ?_))) | refine row_same rfl ?_ ?_ | refine row_ren rfl ?_ ?_)))); done)); (try (any_goals (first | (apply nodup_mk; rfl) | (apply nodup_mk2; rfl) | (apply nodup_mk3; rfl)))))
    | ((first | apply call1 (hhb) | apply calld1 (hhb)); (focus ((iterate 2 (all_goals (repeat' (first | exact sub_dead | exact fam_same rfl rfl rfl | exact fam_rd rfl rfl | exact fam_ren rfl rfl rfl | exact row_nm rfl rfl | (refine row_nm rfl ?_) | exact subL_nil | exact trivial | (intro Q h; refine h ?_; clear h Q) | refine And.intro ?_ ?_ | refine subL_cons ?_ ?_ | refine sub_agg ?_ | refine sub_tup ?_ | refine sub_fn ?_ | refine sub_bfn ?_ ?_ | refine var_mk ?_ | refine rd_var ?_ rfl | refine rd_rd ?_ | exact sub_ptr rfl rfl | exact sub_sl rfl rfl rfl | exact sub_refl_val _ _ | exact sub_sb rfl | exact sub_sbl rfl | exact row_same rfl rfl rfl | exact row_ren rfl rfl rfl | exact sub_nil rfl | ((first | refine sub_int ?_ | refine sub_sl rfl rfl ?_ | refine sub_nil ?_ | refine virt_mk ?_ | show (_ : Nat) = _); first | with_reducible rfl | omega | ((try simp only [wS]); omega) | rfl) | apply row_app1 | apply row_app2 | apply row_app1r | refine cells_succ ?_ ?_ | exact cell0 | with_reducible rfl | (refine And.left (b := True) ⟨?_, True.intro⟩; assumption) | refine sub_int ?_ | refine sub_sb ?_ | refine sub_sbl ?_ | refine sub_sl rfl rfl ?_ | (apply row_lit rfl; (focus (refine cells_succ ?_ ?_))) | refine row_same rfl ?_ ?_ | refine row_ren rfl ?_ ?_)))); done)); (try (any_goals (first | (apply nodup_mk; rfl) | (apply nodup_mk2; rfl) | (apply nodup_mk3; rfl)))))
    | ((first | apply call1 (hnb) | apply calld1 (hnb)); (focus ((iterate 2 (all_goals (repeat' (first | exact sub_dead | exact fam_same rfl rfl rfl | exact fam_rd rfl rfl | exact fam_ren rfl rfl rfl | exact row_nm rfl rfl | (refine row_nm rfl ?_) | exact subL_nil | exact trivial | (intro Q h; refine h ?_; clear h Q) | refine And.intro ?_ ?_ | refine subL_cons ?_ ?_ | refine sub_agg ?_ | refine sub_tup ?_ | refine sub_fn ?_ | refine sub_bfn ?_ ?_ | refine var_mk ?_ | refine rd_var ?_ rfl | refine rd_rd ?_ | exact sub_ptr rfl rfl | exact sub_sl rfl rfl rfl | exact sub_refl_val _ _ | exact sub_sb rfl | exact sub_sbl rfl | exact row_same rfl rfl rfl | exact row_ren rfl rfl rfl | exact sub_nil rfl | ((first | refine sub_int ?_ | refine sub_sl rfl rfl ?_ | refine sub_nil ?_ | refine virt_mk ?_ | show (_ : Nat) = _); first | with_reducible rfl | omega | ((try simp only [wS]); omega) | rfl) | apply row_app1 | apply row_app2 | apply row_app1r | refine cells_succ ?_ ?_ | exact cell0 | with_reducible rfl | (refine And.left (b := True) ⟨?_, True.intro⟩; assumption) | refine sub_int ?_ | refine sub_sb ?_ | refine sub_sbl ?_ | refine sub_sl rfl rfl ?_ | (apply row_lit rfl; (focus (refine cells_succ ?_ ?_))) | refine row_same rfl ?_ ?_ | refine row_ren rfl ?_ ?_)))); done)); (try (any_goals (first | (apply nodup_mk; rfl) | (apply nodup_mk2; rfl) | (apply nodup_mk3; rfl)))))
    | ((first | apply call1 (hd) | apply calld1 (hd)); (focus ((iterate 2 (all_goals (repeat' (first | exact sub_dead | exact fam_same rfl rfl rfl | exact fam_rd rfl rfl | exact fam_ren rfl rfl rfl | exact row_nm rfl rfl | (refine row_nm rfl ?_) | exact subL_nil | exact trivial | (intro Q h; refine h ?_; clear h Q) | refine And.intro ?_ ?_ | refine subL_cons ?_ ?_ | refine sub_agg ?_ | refine sub_tup ?_ | refine sub_fn ?_ | refine sub_bfn ?_ ?_ | refine var_mk ?_ | refine rd_var ?_ rfl | refine rd_rd ?_ | exact sub_ptr rfl rfl | exact sub_sl rfl rfl rfl | exact sub_refl_val _ _ | exact sub_sb rfl | exact sub_sbl rfl | exact row_same rfl rfl rfl | exact row_ren rfl rfl rfl | exact sub_nil rfl | ((first | refine sub_int ?_ | refine sub_sl rfl rfl ?_ | refine sub_nil ?_ | refine virt_mk ?_ | show (_ : Nat) = _); first | with_reducible rfl | omega | ((try simp only [wS]); omega) | rfl) | apply row_app1 | apply row_app2 | apply row_app1r | refine cells_succ ?_ ?_ | exact cell0 | with_reducible rfl | (refine And.left (b := True) ⟨?_, True.intro⟩; assumption) | refine sub_int ?_ | refine sub_sb ?_ | refine sub_sbl ?_ | refine sub_sl rfl rfl ?_ | (apply row_lit rfl; (focus (refine cells_succ ?_ ?_))) | refine row_same rfl ?_ ?_ | refine row_ren rfl ?_ ?_)))); done)); (try (any_goals (first | (apply nodup_mk; rfl) | (apply nodup_mk2; rfl) | (apply nodup_mk3; rfl)))))
    | (fail)
    | omega))
  refine loop_inv (σ := Nat) (fun x => x ≤ K) (fun x => ⟨[(2, .val (.int .i64 b)), (7, .sl 2 1 0 m none), (8, .sl 3 1 0 m none), (9, .sl 4 1 0 (x + 1) (capP x)), (10, .val (.int .i64 (N x : Nat)))], [gB l, .var [.val (.int .i64 m), .sl 0 4 0 l.length cap], nB m R, iB true D, iB true (P x)]⟩) (fun x => K - x) (0) ?_ ?_ ?_
  · omega
  · (apply le_mk [some 0, some 1, some 2, some 3, some 4]; (focus (iterate 2 (all_goals (repeat' (first | exact sub_dead | exact fam_same rfl rfl rfl | exact fam_rd rfl rfl | exact fam_ren rfl rfl rfl | exact row_nm rfl rfl | (refine row_nm rfl ?_) | exact subL_nil | exact trivial | (intro Q h; refine h ?_; clear h Q) | refine And.intro ?_ ?_ | refine subL_cons ?_ ?_ | refine sub_agg ?_ | refine sub_tup ?_ | refine sub_fn ?_ | refine sub_bfn ?_ ?_ | refine var_mk ?_ | refine rd_var ?_ rfl | refine rd_rd ?_ | exact sub_ptr rfl rfl | exact sub_sl rfl rfl rfl | exact sub_refl_val _ _ | exact sub_sb rfl | exact sub_sbl rfl | exact row_same rfl rfl rfl | exact row_ren rfl rfl rfl | exact sub_nil rfl | ((first | refine sub_int ?_ | refine sub_sl rfl rfl ?_ | refine sub_nil ?_ | refine virt_mk ?_ | show (_ : Nat) = _); first | with_reducible rfl | omega | ((try simp only [wS]); omega) | rfl) | apply row_app1 | apply row_app2 | apply row_app1r | refine cells_succ ?_ ?_ | exact cell0 | with_reducible rfl | (refine And.left (b := True) ⟨?_, True.intro⟩; assumption) | refine sub_int ?_ | refine sub_sb ?_ | refine sub_sbl ?_ | refine sub_sl rfl rfl ?_ | (apply row_lit rfl; (focus (refine cells_succ ?_ ?_))) | refine row_same rfl ?_ ?_ | refine row_ren rfl ?_ ?_))))); (any_goals (apply okIx_mk; rfl)))
    all_goals (rw [hP0]; iterate 2 (all_goals (repeat' (first | exact sub_dead | exact fam_same rfl rfl rfl | exact fam_rd rfl rfl | exact fam_ren rfl rfl rfl | exact row_nm rfl rfl | (refine row_nm rfl ?_) | exact subL_nil | exact trivial | (intro Q h; refine h ?_; clear h Q) | refine And.intro ?_ ?_ | refine subL_cons ?_ ?_ | refine sub_agg ?_ | refine sub_tup ?_ | refine sub_fn ?_ | refine sub_bfn ?_ ?_ | refine var_mk ?_ | refine rd_var ?_ rfl | refine rd_rd ?_ | exact sub_ptr rfl rfl | exact sub_sl rfl rfl rfl | exact sub_refl_val _ _ | exact sub_sb rfl | exact sub_sbl rfl | exact row_same rfl rfl rfl | exact row_ren rfl rfl rfl | exact sub_nil rfl | ((first | refine sub_int ?_ | refine sub_sl rfl rfl ?_ | refine sub_nil ?_ | refine virt_mk ?_ | show (_ : Nat) = _); first | with_reducible rfl | omega | ((try simp only [wS]); omega) | rfl) | apply row_app1 | apply row_app2 | apply row_app1r | refine cells_succ ?_ ?_ | exact cell0 | with_reducible rfl | (refine And.left (b := True) ⟨?_, True.intro⟩; assumption) | refine sub_int ?_ | refine sub_sb ?_ | refine sub_sbl ?_ | refine sub_sl rfl rfl ?_ | (apply row_lit rfl; (focus (refine cells_succ ?_ ?_))) | refine row_same rfl ?_ ?_ | refine row_ren rfl ?_ ?_))))
  rintro x hx
  have hpx := hps x (by omega)
  by_cases hxK : x < K
  · have hne : ((N x : Nat) : Int) ≠ (b : Int) := fun h => by
      have : N x = b := by omega
      rw [this, hD0] at hpx
      omega
    have hPsx := hPs x
    have hPlx := hPl x
    have hpSx := hpS x
    have hrr := hrow (N x)
    have hra := hin (N x)
    have hfind := fun k W => hfind (N x) k W hpx.1
    have hhas := fun W => hhas (N x) W hpx.1
    generalize hW : R.getD (N x) [] = W at *
    have hW' : (famF intC 0 R (N x)).1 = W.length := by rw [famF_fst, hW]
    have hW2 : (famF intC 0 R (N x)).2 = rowF intC 0 W := by rw [famF_snd, hW]
    generalize hPx : P x = Px at *
    generalize hv : N x = v at *
    have hzv : 0 + Int.toNat (v : Int) = v := by omega
    have hcap := capP_or x
    generalize hcx : capP x = c at *
    (repeat' (first
    | (intro Q h; refine h ?_; clear h Q)
    | (with_reducible refine bcase_true ?_)
    | (with_reducible refine bcase_false ?_)
    | (refine bcase_mk (fun hb => ?_) (fun hb => ?_) <;> (try simp only [nS, nT, eq_self, reduceCtorEq] at hb))
    | refine nil_mk (fun hz => ?_) ?_
    | refine draw_mk (by decide +kernel) ?_
    | refine seq_go ?_
    | refine And.intro (by first | omega | ((try simp only [wS]); omega) | rfl | decide) ?_
    | (fail)
    | omega))
    refine loop_inv (σ := Nat) (fun x => x ≤ W.length ∧ ∀ j < x, D.getD (W.getD j 0).toNat 0 ≠ D.getD v 0 - 1) (fun x => ⟨[(2, .val (.int .i64 b)), (7, .sl 2 1 0 m none), (8, .sl 3 1 0 m none), (9, .sl 4 1 0 Px.length c), (10, .val (.int .i64 v)), (42, .sl 5 1 0 W.length none), (43, .val (.int .i64 W.length)), (44, .val (.int .i64 x))], [gB l, .var [.val (.int .i64 m), .sl 0 4 0 l.length cap], nB m R, iB true D, iB true Px, .row 2 v]⟩) (fun x => W.length - x) (0) ?_ ?_ ?_
    · exact ⟨by omega, fun j hj => absurd hj (by omega)⟩
    · (apply le_mk [some 0, some 1, some 2, some 3, some 4, some 5]; (focus (iterate 2 (all_goals (repeat' (first | exact sub_dead | exact fam_same rfl rfl rfl | exact fam_rd rfl rfl | exact fam_ren rfl rfl rfl | exact row_nm rfl rfl | (refine row_nm rfl ?_) | exact subL_nil | exact trivial | (intro Q h; refine h ?_; clear h Q) | refine And.intro ?_ ?_ | refine subL_cons ?_ ?_ | refine sub_agg ?_ | refine sub_tup ?_ | refine sub_fn ?_ | refine sub_bfn ?_ ?_ | refine var_mk ?_ | refine rd_var ?_ rfl | refine rd_rd ?_ | exact sub_ptr rfl rfl | exact sub_sl rfl rfl rfl | exact sub_refl_val _ _ | exact sub_sb rfl | exact sub_sbl rfl | exact row_same rfl rfl rfl | exact row_ren rfl rfl rfl | exact sub_nil rfl | ((first | refine sub_int ?_ | refine sub_sl rfl rfl ?_ | refine sub_nil ?_ | refine virt_mk ?_ | show (_ : Nat) = _); first | with_reducible rfl | omega | ((try simp only [wS]); omega) | rfl) | apply row_app1 | apply row_app2 | apply row_app1r | refine cells_succ ?_ ?_ | exact cell0 | with_reducible rfl | (refine And.left (b := True) ⟨?_, True.intro⟩; assumption) | refine sub_int ?_ | refine sub_sb ?_ | refine sub_sbl ?_ | refine sub_sl rfl rfl ?_ | (apply row_lit rfl; (focus (refine cells_succ ?_ ?_))) | refine row_same rfl ?_ ?_ | refine row_ren rfl ?_ ?_))))); (any_goals (apply okIx_mk; rfl)))
      all_goals (first | (rw [hzv, hW']; done) | fail)
    rintro k ⟨hk, hno⟩
    by_cases hkW : k < W.length
    · have hzk : 0 + Int.toNat (k : Int) = k := by omega
      have hwk := hra (W.getD k 0) (getD_mem W k 0 hkW)
      have hfk := fun h => hfind k W rfl hkW h hno
      have hXe : (R.getD v []).getD (0 + Int.toNat (k : Int)) 0 = W.getD k 0 := by rw [hW, hzk]
      rw [← hXe] at hwk hfk
      generalize hX : (R.getD v []).getD (0 + Int.toNat (k : Int)) 0 = X at *
      have hmin' : D.getD v 0 = (K : Int) - x := hpx.2
      have hw1 : IntKind.i64.wrap (D.getD (0 + Int.toNat (v : Int)) 0 - 1) = D.getD v 0 - 1 := by rw [hzv]; exact cwrap (by omega) (by omega)
      have hnx : D.getD (0 + Int.toNat X) 0 = IntKind.i64.wrap (D.getD (0 + Int.toNat (v : Int)) 0 - 1) → ((N (x + 1) : Nat) : Int) = X := fun h => by
        rw [Nat.zero_add, hw1] at h
        rw [hpSx, hfk h]; omega
      have hny : ¬ D.getD (0 + Int.toNat X) 0 = IntKind.i64.wrap (D.getD (0 + Int.toNat (v : Int)) 0 - 1) → ∀ j < k + 1, D.getD (W.getD j 0).toNat 0 ≠ D.getD v 0 - 1 := fun h j hj => by
        by_cases e : j = k
        · rw [e, ← hXe, ← hw1]; rw [Nat.zero_add] at h; exact h
        · exact hno j (by omega)
      subst hX
      (repeat' (first
    | (intro Q h; refine h ?_; clear h Q)
    | (with_reducible refine bcase_true ?_)
    | (with_reducible refine bcase_false ?_)
    | (refine bcase_mk (fun hb => ?_) (fun hb => ?_) <;> (try simp only [nS, nT, eq_self, reduceCtorEq] at hb))
    | refine nil_mk (fun hz => ?_) ?_
    | refine draw_mk (by decide +kernel) ?_
    | refine seq_go ?_
    | refine And.intro (by first | omega | ((try simp only [wS]); omega) | rfl | decide) ?_
    | (have e := hnx hb; have hny := hny; clear hny; (apply next_sub (Subtype.mk (x + 1) (by first | omega | (simp only; omega))); (focus (rw [hPsx, ← e]; apply le_mk [some 0, some 1, some 2, some 3, some 7]; (focus (iterate 2 (all_goals (repeat' (first | exact sub_dead | exact fam_same rfl rfl rfl | exact fam_rd rfl rfl | exact fam_ren rfl rfl rfl | exact row_nm rfl rfl | (refine row_nm rfl ?_) | exact subL_nil | exact trivial | (intro Q h; refine h ?_; clear h Q) | refine And.intro ?_ ?_ | refine subL_cons ?_ ?_ | refine sub_agg ?_ | refine sub_tup ?_ | refine sub_fn ?_ | refine sub_bfn ?_ ?_ | refine var_mk ?_ | refine rd_var ?_ rfl | refine rd_rd ?_ | exact sub_ptr rfl rfl | exact sub_sl rfl rfl rfl | exact sub_refl_val _ _ | exact sub_sb rfl | exact sub_sbl rfl | exact row_same rfl rfl rfl | exact row_ren rfl rfl rfl | exact sub_nil rfl | ((first | refine sub_int ?_ | refine sub_sl rfl rfl ?_ | refine sub_nil ?_ | refine virt_mk ?_ | show (_ : Nat) = _); first | with_reducible rfl | omega | ((try simp only [wS]); omega) | rfl) | apply row_app1 | apply row_app2 | apply row_app1r | refine cells_succ ?_ ?_ | exact cell0 | with_reducible rfl | (refine And.left (b := True) ⟨?_, True.intro⟩; assumption) | refine sub_int ?_ | refine sub_sb ?_ | refine sub_sbl ?_ | refine sub_sl rfl rfl ?_ | (apply row_lit rfl; (focus (refine cells_succ ?_ ?_))) | refine row_same rfl ?_ ?_ | refine row_ren rfl ?_ ?_))))); (any_goals (apply okIx_mk; rfl)))); (all_goals (try (first | omega | (simp only; omega))))))
    | (have e := hny hb; (apply next_sub (Subtype.mk (k + 1) _); (focus (apply le_mk [some 0, some 1, some 2, some 3, some 4, some 5]; (focus (iterate 2 (all_goals (repeat' (first | exact sub_dead | exact fam_same rfl rfl rfl | exact fam_rd rfl rfl | exact fam_ren rfl rfl rfl | exact row_nm rfl rfl | (refine row_nm rfl ?_) | exact subL_nil | exact trivial | (intro Q h; refine h ?_; clear h Q) | refine And.intro ?_ ?_ | refine subL_cons ?_ ?_ | refine sub_agg ?_ | refine sub_tup ?_ | refine sub_fn ?_ | refine sub_bfn ?_ ?_ | refine var_mk ?_ | refine rd_var ?_ rfl | refine rd_rd ?_ | exact sub_ptr rfl rfl | exact sub_sl rfl rfl rfl | exact sub_refl_val _ _ | exact sub_sb rfl | exact sub_sbl rfl | exact row_same rfl rfl rfl | exact row_ren rfl rfl rfl | exact sub_nil rfl | ((first | refine sub_int ?_ | refine sub_sl rfl rfl ?_ | refine sub_nil ?_ | refine virt_mk ?_ | show (_ : Nat) = _); first | with_reducible rfl | omega | ((try simp only [wS]); omega) | rfl) | apply row_app1 | apply row_app2 | apply row_app1r | refine cells_succ ?_ ?_ | exact cell0 | with_reducible rfl | (refine And.left (b := True) ⟨?_, True.intro⟩; assumption) | refine sub_int ?_ | refine sub_sb ?_ | refine sub_sbl ?_ | refine sub_sl rfl rfl ?_ | (apply row_lit rfl; (focus (refine cells_succ ?_ ?_))) | refine row_same rfl ?_ ?_ | refine row_ren rfl ?_ ?_))))); (any_goals (apply okIx_mk; rfl)))); (all_goals (try (first | omega | (simp only; omega))))))
    | (rcases hcap with rfl | ⟨rfl, -⟩)
    | omega))
      all_goals (first | (simp only [List.length_append, List.length_cons, List.length_nil]; done) | (simp only [Nat.zero_add]; iterate 2 (all_goals (repeat' (first | exact sub_dead | exact fam_same rfl rfl rfl | exact fam_rd rfl rfl | exact fam_ren rfl rfl rfl | exact row_nm rfl rfl | (refine row_nm rfl ?_) | exact subL_nil | exact trivial | (intro Q h; refine h ?_; clear h Q) | refine And.intro ?_ ?_ | refine subL_cons ?_ ?_ | refine sub_agg ?_ | refine sub_tup ?_ | refine sub_fn ?_ | refine sub_bfn ?_ ?_ | refine var_mk ?_ | refine rd_var ?_ rfl | refine rd_rd ?_ | exact sub_ptr rfl rfl | exact sub_sl rfl rfl rfl | exact sub_refl_val _ _ | exact sub_sb rfl | exact sub_sbl rfl | exact row_same rfl rfl rfl | exact row_ren rfl rfl rfl | exact sub_nil rfl | ((first | refine sub_int ?_ | refine sub_sl rfl rfl ?_ | refine sub_nil ?_ | refine virt_mk ?_ | show (_ : Nat) = _); first | with_reducible rfl | omega | ((try simp only [wS]); omega) | rfl) | apply row_app1 | apply row_app2 | apply row_app1r | refine cells_succ ?_ ?_ | exact cell0 | with_reducible rfl | (refine And.left (b := True) ⟨?_, True.intro⟩; assumption) | refine sub_int ?_ | refine sub_sb ?_ | refine sub_sbl ?_ | refine sub_sl rfl rfl ?_ | (apply row_lit rfl; (focus (refine cells_succ ?_ ?_))) | refine row_same rfl ?_ ?_ | refine row_ren rfl ?_ ?_)))))
      all_goals (first | (simp only [List.length_append, List.length_cons, List.length_nil]; done) | fail)
    · exact (hhas W (by omega) rfl fun j hj => hno j (by omega)).elim
  · have hkk : x = K := by omega
    subst hkk
    have hNb : N x = b := honly (N x) hpx.1 (by omega)
    rw [hNb]
    have hPlx := hPl x
    generalize P x = Px at *
    rw [hPlx, capL_P]
    (repeat' (first
    | (intro Q h; refine h ?_; clear h Q)
    | (with_reducible refine bcase_true ?_)
    | (with_reducible refine bcase_false ?_)
    | (refine bcase_mk (fun hb => ?_) (fun hb => ?_) <;> (try simp only [nS, nT, eq_self, reduceCtorEq] at hb))
    | refine nil_mk (fun hz => ?_) ?_
    | refine draw_mk (by decide +kernel) ?_
    | refine seq_go ?_
    | refine And.intro (by first | omega | ((try simp only [wS]); omega) | rfl | decide) ?_
    | (apply ret_mk [some 0, some 4]; (focus (iterate 2 (all_goals (repeat' (first | exact sub_dead | exact fam_same rfl rfl rfl | exact fam_rd rfl rfl | exact fam_ren rfl rfl rfl | exact row_nm rfl rfl | (refine row_nm rfl ?_) | exact subL_nil | exact trivial | (intro Q h; refine h ?_; clear h Q) | refine And.intro ?_ ?_ | refine subL_cons ?_ ?_ | refine sub_agg ?_ | refine sub_tup ?_ | refine sub_fn ?_ | refine sub_bfn ?_ ?_ | refine var_mk ?_ | refine rd_var ?_ rfl | refine rd_rd ?_ | exact sub_ptr rfl rfl | exact sub_sl rfl rfl rfl | exact sub_refl_val _ _ | exact sub_sb rfl | exact sub_sbl rfl | exact row_same rfl rfl rfl | exact row_ren rfl rfl rfl | exact sub_nil rfl | ((first | refine sub_int ?_ | refine sub_sl rfl rfl ?_ | refine sub_nil ?_ | refine virt_mk ?_ | show (_ : Nat) = _); first | with_reducible rfl | omega | ((try simp only [wS]); omega) | rfl) | apply row_app1 | apply row_app2 | apply row_app1r | refine cells_succ ?_ ?_ | exact cell0 | with_reducible rfl | (refine And.left (b := True) ⟨?_, True.intro⟩; assumption) | refine sub_int ?_ | refine sub_sb ?_ | refine sub_sbl ?_ | refine sub_sl rfl rfl ?_ | (apply row_lit rfl; (focus (refine cells_succ ?_ ?_))) | refine row_same rfl ?_ ?_ | refine row_ren rfl ?_ ?_))))); (any_goals (apply okIx_mk; rfl)))
    | omega))
end Go.Vx.L18

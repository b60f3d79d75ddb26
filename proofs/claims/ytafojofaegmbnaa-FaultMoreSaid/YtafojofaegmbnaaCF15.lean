/- Lemmas of a small executor for the model, and contracts of functions, used for the law that this claim proves. No condition. -/
import Derived.Test.YtafojofaegmbnaaCF14
set_option linter.unusedSimpArgs false
set_option linter.unusedVariables false
set_option maxRecDepth 100000
namespace Go.Vx.L55
open Go Go.Proofs
abbrev RI (x : Fg) : Prop := R64 x.lo ∧ R64 x.hi
theorem cdF_R (lo hi : Int) (h : (cdF lo hi).2 = 0) : R64 (cdF lo hi).1.1 ∧ R64 (cdF lo hi).1.2 := by
  unfold cdF at *
  split at h
  · rename_i hc
    rw [if_pos hc]
    rcases ivck_cases lo hi with ⟨_, q1, q2, q3⟩ | ⟨q, _⟩
    · simp only [R64]; omega
    · omega
  · cases h
theorem sv_R (v : Int) (x : Fg) (h : RI x) : RI (sv v x) := by
  unfold sv
  split
  · rename_i hc
    unfold shF at *
    split at hc
    · cases hc
    · rename_i h1; rw [if_neg h1]; exact cdF_R _ _ hc
  · exact h
theorem nw_R (v : Int) (x : Fg) (h : RI x) : RI (nw v x) := by
  unfold nw nwF
  split
  · rename_i q hq
    split at hq
    · rename_i hc
      simp only [Option.some.injEq] at hq
      rw [← hq]
      rcases ivck_cases (midF x.lo x.hi + v) (midF x.lo x.hi + v) with ⟨_, q1, q2, q3⟩ | ⟨q, _⟩
      · simp only [RI, R64, Fg.iv']; omega
      · omega
    · cases hq
  · exact h
theorem fgF_R (f : Ft) (a : Int) (x : Fg) (h : RI x) : RI (fgF f a x) := by
  unfold fgF
  split
  · exact h
  split
  · exact sv_R _ _ h
  split
  · exact nw_R _ _ h
  all_goals ((repeat' split) <;> exact h)
theorem ft_ok {f : Ft} (h : ck1 f = 0) : V64 f.vl ∧ (1 ≤ f.kd ∧ f.kd ≤ 9) := by
  obtain ⟨_, _, h3, h4, h5⟩ := ck1_ok h
  refine ⟨?_, h3⟩
  unfold rg at *
  simp only [V64]
  split at h4
  · rename_i q; rw [if_pos q] at h5; simp only at h4 h5; omega
  rename_i q; rw [if_neg q] at h5
  split at h4
  · rename_i q; rw [if_pos q] at h5; simp only at h4 h5; omega
  rename_i q; rw [if_neg q] at h5
  split at h4
  · rename_i q; rw [if_pos q] at h5; simp only at h4 h5; omega
  rename_i q; rw [if_neg q] at h5
  split at h4
  · rename_i q; rw [if_pos q] at h5; simp only at h4 h5; omega
  · rename_i q; rw [if_neg q] at h5; simp only at h4 h5; omega
/-- What is sent. -/
def apL (l : List Ft) (a : Int) (is : List Int) (x : Fg) : Fg := is.foldl (fun x i => fgF (l.getD i.toNat ft0) a x) x
def apF (l : List Ft) (nd a : Int) (x : Fg) : Fg := apL l a (acL l nd a) x
def honest (p : Nt) (lo hi : Int) : Fg := ⟨false, p, lo, hi, 0⟩
def nt0 : Nt := ⟨0, 0, 0, 0, 0, 0, 0, 0, 0, 0, 0, 0, 0⟩
abbrev ntA (p : Nt) : AV := .agg (ntC p)
abbrev ivA (lo hi : Int) : AV := .agg [.val (.int .i64 lo), .val (.int .i64 hi)]
theorem acL_ok {l : List Ft} {nd a : Int} {i : Int} (h : i ∈ acL l nd a) : 0 ≤ i ∧ i < l.length ∧ ck1 (l.getD i.toNat ft0) = 0 := by
  unfold acL at h
  split at h
  · rename_i h0
    have h1 := aN_mem l nd a l.length i h
    exact ⟨h1.1, h1.2, (ckC_ok h0).2 _ (getD_mem l i.toNat ft0 (by omega))⟩
  · cases h
theorem acL_len (l : List Ft) (nd a : Int) : (acL l nd a).length ≤ 32 := by
  unfold acL
  split
  · rename_i h0
    have := aN_len l nd a l.length
    have := (ckC_ok h0).1
    omega
  · simp
set_option maxHeartbeats 2000000 in
theorem apply_ok (l : List Ft) (cap : Option Nat) (hl : l.length ≤ maxLen) (nd a : Int) (p : Nt) (lo hi : Int) (hR : R64 lo ∧ R64 hi) :
    Runs Try.prog 20 [fA l cap, .val (.int .i64 nd), .val (.int .i64 a), ntA p, ivA lo hi] [fB l] (Det (fgA (apF l nd a (honest p lo hi))) [fB l]) := by
  have hmx : maxLen = 9223372036854775807 := by decide
  have hc := active_ok l cap hl nd a
  have hok := @acL_ok l nd a
  have hn := acL_len l nd a
  unfold apF
  generalize acL l nd a = is at *
  refine Runs.mk tabOK Try.call20 Try.func20 rfl Try.ntmps20 Try.results20 rfl ?_
  (repeat' (first
    | (intro Q h; refine h ?_; clear h Q)
    | refine bcase_t (by first | exact beq_self_eq_true _ | decide) ?_
    | refine bcase_f (by decide) ?_
    | (with_reducible refine bcase_true ?_)
    | (with_reducible refine bcase_false ?_)
    | (refine bcase_mk (fun hb => ?_) (fun hb => ?_) <;> (try simp only [nS, nT, eq_self, reduceCtorEq] at hb))
    | refine nil_mk (fun hz => ?_) ?_
    | refine draw_mk (by decide +kernel) ?_
    | refine seq_go ?_
    | refine And.intro (by first | omega | ((try simp only [wS]); omega) | rfl | decide) ?_
    | ((first | apply call1 (hc) | apply calld1 (hc)); (focus (iterate 2 (all_goals (repeat' (first | exact sub_dead | exact subL_nil | exact trivial | (intro Q h; refine h ?_; clear h Q) | refine And.intro ?_ ?_ | refine subL_cons ?_ ?_ | refine sub_agg ?_ | refine sub_tup ?_ | refine sub_fn ?_ | refine sub_bfn ?_ ?_ | refine var_mk ?_ | refine rd_var ?_ rfl | refine rd_rd ?_ | exact sub_ptr rfl rfl | exact sub_sl rfl rfl rfl | exact sub_refl_val _ _ | exact sub_sb rfl | exact sub_sbl rfl | exact row_same rfl rfl rfl | exact row_ren rfl rfl rfl | exact sub_nil rfl | ((first | refine sub_int ?_ | refine sub_sl rfl rfl ?_ | refine sub_nil ?_ | refine virt_mk ?_ | show (_ : Nat) = _); first | with_reducible rfl | omega | ((try simp only [wS]); omega) | rfl) | apply row_app1 | apply row_app2 | apply row_app1r | refine cells_succ ?_ ?_ | exact cell0 | with_reducible rfl | (refine And.left (b := True) ⟨?_, True.intro⟩; assumption) | refine sub_int ?_ | refine sub_sb ?_ | refine sub_sbl ?_ | refine sub_sl rfl rfl ?_ | (apply row_lit rfl; (focus (refine cells_succ ?_ ?_))) | refine row_same rfl ?_ ?_ | refine row_ren rfl ?_ ?_))))); (try (any_goals (first | (apply nodup_mk; rfl) | (apply nodup_mk2; rfl) | (apply nodup_mk3; rfl)))))
    | omega))
  refine loop_inv (σ := Nat × Fg) (fun x => (x.1 ≤ is.length ∧ apL l a (is.drop x.1) x.2 = apL l a is (honest p lo hi)) ∧ RI x.2) (fun x => ⟨[(0, .sl 0 5 0 l.length cap), (2, .val (.int .i64 a)), (10, .ptr 1 17 0 0), (11, .ptr 2 17 0 0), (20, .sl 3 1 0 is.length none), (21, .val (.int .i64 is.length)), (22, .val (.int .i64 x.1))], [fB l, sB (honest nt0 0 0), sB x.2, iB true is]⟩) (fun x => is.length - x.1) ((0, honest p lo hi)) ?_ ?_ ?_
  · exact ⟨⟨by simp, rfl⟩, hR⟩
  · (apply le_mk [some 0, some 3, some 4, some 5]; (focus (iterate 2 (all_goals (repeat' (first | exact sub_dead | exact subL_nil | exact trivial | (intro Q h; refine h ?_; clear h Q) | refine And.intro ?_ ?_ | refine subL_cons ?_ ?_ | refine sub_agg ?_ | refine sub_tup ?_ | refine sub_fn ?_ | refine sub_bfn ?_ ?_ | refine var_mk ?_ | refine rd_var ?_ rfl | refine rd_rd ?_ | exact sub_ptr rfl rfl | exact sub_sl rfl rfl rfl | exact sub_refl_val _ _ | exact sub_sb rfl | exact sub_sbl rfl | exact row_same rfl rfl rfl | exact row_ren rfl rfl rfl | exact sub_nil rfl | ((first | refine sub_int ?_ | refine sub_sl rfl rfl ?_ | refine sub_nil ?_ | refine virt_mk ?_ | show (_ : Nat) = _); first | with_reducible rfl | omega | ((try simp only [wS]); omega) | rfl) | apply row_app1 | apply row_app2 | apply row_app1r | refine cells_succ ?_ ?_ | exact cell0 | with_reducible rfl | (refine And.left (b := True) ⟨?_, True.intro⟩; assumption) | refine sub_int ?_ | refine sub_sb ?_ | refine sub_sbl ?_ | refine sub_sl rfl rfl ?_ | (apply row_lit rfl; (focus (refine cells_succ ?_ ?_))) | refine row_same rfl ?_ ?_ | refine row_ren rfl ?_ ?_))))); (any_goals (apply okIx_mk; rfl)))
  rintro ⟨k, x⟩ ⟨⟨hk, ht⟩, hx⟩
  simp only at hk ht hx
  have hd := drop_cons is k 0
  by_cases hke : k = is.length
  · have e : x = apL l a is (honest p lo hi) := by
      rw [hke, List.drop_of_length_le (Nat.le_refl _)] at ht; exact ht
    rw [← e]
    clear ht e
    (repeat' (first
    | (intro Q h; refine h ?_; clear h Q)
    | (with_reducible refine bcase_true ?_)
    | (with_reducible refine bcase_false ?_)
    | (refine bcase_mk (fun hb => ?_) (fun hb => ?_) <;> (try simp only [nS, nT, eq_self, reduceCtorEq] at hb))
    | refine nil_mk (fun hz => ?_) ?_
    | refine draw_mk (by decide +kernel) ?_
    | refine seq_go ?_
    | refine And.intro (by first | omega | ((try simp only [wS]); omega) | rfl | decide) ?_
    | (apply ret_mk [some 0]; (focus (iterate 2 (all_goals (repeat' (first | exact sub_dead | exact subL_nil | exact trivial | (intro Q h; refine h ?_; clear h Q) | refine And.intro ?_ ?_ | refine subL_cons ?_ ?_ | refine sub_agg ?_ | refine sub_tup ?_ | refine sub_fn ?_ | refine sub_bfn ?_ ?_ | refine var_mk ?_ | refine rd_var ?_ rfl | refine rd_rd ?_ | exact sub_ptr rfl rfl | exact sub_sl rfl rfl rfl | exact sub_refl_val _ _ | exact sub_sb rfl | exact sub_sbl rfl | exact row_same rfl rfl rfl | exact row_ren rfl rfl rfl | exact sub_nil rfl | ((first | refine sub_int ?_ | refine sub_sl rfl rfl ?_ | refine sub_nil ?_ | refine virt_mk ?_ | show (_ : Nat) = _); first | with_reducible rfl | omega | ((try simp only [wS]); omega) | rfl) | apply row_app1 | apply row_app2 | apply row_app1r | refine cells_succ ?_ ?_ | exact cell0 | with_reducible rfl | (refine And.left (b := True) ⟨?_, True.intro⟩; assumption) | refine sub_int ?_ | refine sub_sb ?_ | refine sub_sbl ?_ | refine sub_sl rfl rfl ?_ | (apply row_lit rfl; (focus (refine cells_succ ?_ ?_))) | refine row_same rfl ?_ ?_ | refine row_ren rfl ?_ ?_))))); (any_goals (apply okIx_mk; rfl)))
    | omega))
    all_goals omega
  have hlt : k < is.length := by omega
  have hb' : 0 ≤ is.getD k 0 ∧ is.getD k 0 < l.length ∧ ck1 (l.getD (is.getD k 0).toNat ft0) = 0 := hok (getD_mem is k 0 hlt)
  rw [hd hlt] at ht
  generalize hi' : is.getD k 0 = i at *
  have hF := forge_ok x (l.getD i.toNat ft0) a hx.1 hx.2 (ft_ok hb'.2.2).1 (ft_ok hb'.2.2).2
  have hT : (k + 1 ≤ is.length ∧ apL l a (is.drop (k + 1)) (fgF (l.getD i.toNat ft0) a x) = apL l a is (honest p lo hi)) ∧ RI (fgF (l.getD i.toNat ft0) a x) := ⟨⟨by omega, ht⟩, fgF_R _ _ _ hx⟩
  (repeat' (first
    | (intro Q h; refine h ?_; clear h Q)
    | (with_reducible refine bcase_true ?_)
    | (with_reducible refine bcase_false ?_)
    | (refine bcase_mk (fun hb => ?_) (fun hb => ?_) <;> (try simp only [nS, nT, eq_self, reduceCtorEq] at hb))
    | refine nil_mk (fun hz => ?_) ?_
    | refine draw_mk (by decide +kernel) ?_
    | refine seq_go ?_
    | (refine And.intro (by simp only [Nat.zero_add, Int.toNat_natCast, hi']; omega) ?_)
    | refine And.intro (by first | omega | ((try simp only [wS]); omega) | rfl | decide) ?_
    | (simp only [Nat.zero_add, Int.toNat_natCast, hi']; ((first | apply call1 (hF) | apply calld1 (hF)); (focus (iterate 2 (all_goals (repeat' (first | exact sub_dead | exact subL_nil | exact trivial | (intro Q h; refine h ?_; clear h Q) | refine And.intro ?_ ?_ | refine subL_cons ?_ ?_ | refine sub_agg ?_ | refine sub_tup ?_ | refine sub_fn ?_ | refine sub_bfn ?_ ?_ | refine var_mk ?_ | refine rd_var ?_ rfl | refine rd_rd ?_ | exact sub_ptr rfl rfl | exact sub_sl rfl rfl rfl | exact sub_refl_val _ _ | exact sub_sb rfl | exact sub_sbl rfl | exact row_same rfl rfl rfl | exact row_ren rfl rfl rfl | exact sub_nil rfl | ((first | refine sub_int ?_ | refine sub_sl rfl rfl ?_ | refine sub_nil ?_ | refine virt_mk ?_ | show (_ : Nat) = _); first | with_reducible rfl | omega | ((try simp only [wS]); omega) | rfl) | apply row_app1 | apply row_app2 | apply row_app1r | refine cells_succ ?_ ?_ | exact cell0 | with_reducible rfl | (refine And.left (b := True) ⟨?_, True.intro⟩; assumption) | refine sub_int ?_ | refine sub_sb ?_ | refine sub_sbl ?_ | refine sub_sl rfl rfl ?_ | (apply row_lit rfl; (focus (refine cells_succ ?_ ?_))) | refine row_same rfl ?_ ?_ | refine row_ren rfl ?_ ?_))))); (try (any_goals (first | (apply nodup_mk; rfl) | (apply nodup_mk2; rfl) | (apply nodup_mk3; rfl))))))
    | ((first | apply call1 (hF) | apply calld1 (hF)); (focus (iterate 2 (all_goals (repeat' (first | exact sub_dead | exact subL_nil | exact trivial | (intro Q h; refine h ?_; clear h Q) | refine And.intro ?_ ?_ | refine subL_cons ?_ ?_ | refine sub_agg ?_ | refine sub_tup ?_ | refine sub_fn ?_ | refine sub_bfn ?_ ?_ | refine var_mk ?_ | refine rd_var ?_ rfl | refine rd_rd ?_ | exact sub_ptr rfl rfl | exact sub_sl rfl rfl rfl | exact sub_refl_val _ _ | exact sub_sb rfl | exact sub_sbl rfl | exact row_same rfl rfl rfl | exact row_ren rfl rfl rfl | exact sub_nil rfl | ((first | refine sub_int ?_ | refine sub_sl rfl rfl ?_ | refine sub_nil ?_ | refine virt_mk ?_ | show (_ : Nat) = _); first | with_reducible rfl | omega | ((try simp only [wS]); omega) | rfl) | apply row_app1 | apply row_app2 | apply row_app1r | refine cells_succ ?_ ?_ | exact cell0 | with_reducible rfl | (refine And.left (b := True) ⟨?_, True.intro⟩; assumption) | refine sub_int ?_ | refine sub_sb ?_ | refine sub_sbl ?_ | refine sub_sl rfl rfl ?_ | (apply row_lit rfl; (focus (refine cells_succ ?_ ?_))) | refine row_same rfl ?_ ?_ | refine row_ren rfl ?_ ?_))))); (try (any_goals (first | (apply nodup_mk; rfl) | (apply nodup_mk2; rfl) | (apply nodup_mk3; rfl)))))
    | (apply next_sub (Subtype.mk (k + 1, fgF (l.getD i.toNat ft0) a x) hT); (focus (apply le_mk [some 0, some 1, some 2, some 3]; (focus (iterate 2 (all_goals (repeat' (first | exact sub_dead | exact subL_nil | exact trivial | (intro Q h; refine h ?_; clear h Q) | refine And.intro ?_ ?_ | refine subL_cons ?_ ?_ | refine sub_agg ?_ | refine sub_tup ?_ | refine sub_fn ?_ | refine sub_bfn ?_ ?_ | refine var_mk ?_ | refine rd_var ?_ rfl | refine rd_rd ?_ | exact sub_ptr rfl rfl | exact sub_sl rfl rfl rfl | exact sub_refl_val _ _ | exact sub_sb rfl | exact sub_sbl rfl | exact row_same rfl rfl rfl | exact row_ren rfl rfl rfl | exact sub_nil rfl | ((first | refine sub_int ?_ | refine sub_sl rfl rfl ?_ | refine sub_nil ?_ | refine virt_mk ?_ | show (_ : Nat) = _); first | with_reducible rfl | omega | ((try simp only [wS]); omega) | rfl) | apply row_app1 | apply row_app2 | apply row_app1r | refine cells_succ ?_ ?_ | exact cell0 | with_reducible rfl | (refine And.left (b := True) ⟨?_, True.intro⟩; assumption) | refine sub_int ?_ | refine sub_sb ?_ | refine sub_sbl ?_ | refine sub_sl rfl rfl ?_ | (apply row_lit rfl; (focus (refine cells_succ ?_ ?_))) | refine row_same rfl ?_ ?_ | refine row_ren rfl ?_ ?_))))); (any_goals (apply okIx_mk; rfl)))); (all_goals (try (first | omega | (simp only; omega)))))
    | omega))
set_option maxHeartbeats 2000000 in
theorem rapply_ok (l : List Ft) (cap : Option Nat) (hl : l.length ≤ maxLen) (nd a : Int) (p : Nt) (lo hi : Int) (hR : R64 lo ∧ R64 hi) :
    Runs Try.prog 21 [fA l cap, .val (.int .i64 nd), .val (.int .i64 a), ntA p, ivA lo hi] [fB l] (Det (fgA (apF l nd a (honest p lo hi))) [fB l]) := by
  have hmx : maxLen = 9223372036854775807 := by decide
  have hc := ractive_ok l cap hl nd a
  have hok := @acL_ok l nd a
  have hn := acL_len l nd a
  unfold apF
  generalize acL l nd a = is at *
  refine Runs.mk tabOK Try.call21 Try.func21 rfl Try.ntmps21 Try.results21 rfl ?_
  (repeat' (first
    | (intro Q h; refine h ?_; clear h Q)
    | refine bcase_t (by first | exact beq_self_eq_true _ | decide) ?_
    | refine bcase_f (by decide) ?_
    | (with_reducible refine bcase_true ?_)
    | (with_reducible refine bcase_false ?_)
    | (refine bcase_mk (fun hb => ?_) (fun hb => ?_) <;> (try simp only [nS, nT, eq_self, reduceCtorEq] at hb))
    | refine nil_mk (fun hz => ?_) ?_
    | refine draw_mk (by decide +kernel) ?_
    | refine seq_go ?_
    | refine And.intro (by first | omega | ((try simp only [wS]); omega) | rfl | decide) ?_
    | ((first | apply call1 (hc) | apply calld1 (hc)); (focus (iterate 2 (all_goals (repeat' (first | exact sub_dead | exact subL_nil | exact trivial | (intro Q h; refine h ?_; clear h Q) | refine And.intro ?_ ?_ | refine subL_cons ?_ ?_ | refine sub_agg ?_ | refine sub_tup ?_ | refine sub_fn ?_ | refine sub_bfn ?_ ?_ | refine var_mk ?_ | refine rd_var ?_ rfl | refine rd_rd ?_ | exact sub_ptr rfl rfl | exact sub_sl rfl rfl rfl | exact sub_refl_val _ _ | exact sub_sb rfl | exact sub_sbl rfl | exact row_same rfl rfl rfl | exact row_ren rfl rfl rfl | exact sub_nil rfl | ((first | refine sub_int ?_ | refine sub_sl rfl rfl ?_ | refine sub_nil ?_ | refine virt_mk ?_ | show (_ : Nat) = _); first | with_reducible rfl | omega | ((try simp only [wS]); omega) | rfl) | apply row_app1 | apply row_app2 | apply row_app1r | refine cells_succ ?_ ?_ | exact cell0 | with_reducible rfl | (refine And.left (b := True) ⟨?_, True.intro⟩; assumption) | refine sub_int ?_ | refine sub_sb ?_ | refine sub_sbl ?_ | refine sub_sl rfl rfl ?_ | (apply row_lit rfl; (focus (refine cells_succ ?_ ?_))) | refine row_same rfl ?_ ?_ | refine row_ren rfl ?_ ?_))))); (try (any_goals (first | (apply nodup_mk; rfl) | (apply nodup_mk2; rfl) | (apply nodup_mk3; rfl)))))
    | omega))
  refine loop_inv (σ := Nat × Fg) (fun x => (x.1 ≤ is.length ∧ apL l a (is.drop x.1) x.2 = apL l a is (honest p lo hi)) ∧ RI x.2) (fun x => ⟨[(0, .sl 0 5 0 l.length cap), (2, .val (.int .i64 a)), (10, .ptr 1 17 0 0), (11, .ptr 2 17 0 0), (12, .sl 3 1 0 is.length none), (13, .val (.int .i64 x.1))], [fB l, sB (honest nt0 0 0), sB x.2, iB true is]⟩) (fun x => is.length - x.1) ((0, honest p lo hi)) ?_ ?_ ?_
  · exact ⟨⟨by simp, rfl⟩, hR⟩
  · (apply le_mk [some 0, some 3, some 4, some 5]; (focus (iterate 2 (all_goals (repeat' (first | exact sub_dead | exact subL_nil | exact trivial | (intro Q h; refine h ?_; clear h Q) | refine And.intro ?_ ?_ | refine subL_cons ?_ ?_ | refine sub_agg ?_ | refine sub_tup ?_ | refine sub_fn ?_ | refine sub_bfn ?_ ?_ | refine var_mk ?_ | refine rd_var ?_ rfl | refine rd_rd ?_ | exact sub_ptr rfl rfl | exact sub_sl rfl rfl rfl | exact sub_refl_val _ _ | exact sub_sb rfl | exact sub_sbl rfl | exact row_same rfl rfl rfl | exact row_ren rfl rfl rfl | exact sub_nil rfl | ((first | refine sub_int ?_ | refine sub_sl rfl rfl ?_ | refine sub_nil ?_ | refine virt_mk ?_ | show (_ : Nat) = _); first | with_reducible rfl | omega | ((try simp only [wS]); omega) | rfl) | apply row_app1 | apply row_app2 | apply row_app1r | refine cells_succ ?_ ?_ | exact cell0 | with_reducible rfl | (refine And.left (b := True) ⟨?_, True.intro⟩; assumption) | refine sub_int ?_ | refine sub_sb ?_ | refine sub_sbl ?_ | refine sub_sl rfl rfl ?_ | (apply row_lit rfl; (focus (refine cells_succ ?_ ?_))) | refine row_same rfl ?_ ?_ | refine row_ren rfl ?_ ?_))))); (any_goals (apply okIx_mk; rfl)))
  rintro ⟨k, x⟩ ⟨⟨hk, ht⟩, hx⟩
  simp only at hk ht hx
  have hd := drop_cons is k 0
  by_cases hke : k = is.length
  · have e : x = apL l a is (honest p lo hi) := by
      rw [hke, List.drop_of_length_le (Nat.le_refl _)] at ht; exact ht
    rw [← e]
    clear ht e
    (repeat' (first
    | (intro Q h; refine h ?_; clear h Q)
    | (with_reducible refine bcase_true ?_)
    | (with_reducible refine bcase_false ?_)
    | (refine bcase_mk (fun hb => ?_) (fun hb => ?_) <;> (try simp only [nS, nT, eq_self, reduceCtorEq] at hb))
    | refine nil_mk (fun hz => ?_) ?_
    | refine draw_mk (by decide +kernel) ?_
    | refine seq_go ?_
    | refine And.intro (by first | omega | ((try simp only [wS]); omega) | rfl | decide) ?_
    | (apply ret_mk [some 0]; (focus (iterate 2 (all_goals (repeat' (first | exact sub_dead | exact subL_nil | exact trivial | (intro Q h; refine h ?_; clear h Q) | refine And.intro ?_ ?_ | refine subL_cons ?_ ?_ | refine sub_agg ?_ | refine sub_tup ?_ | refine sub_fn ?_ | refine sub_bfn ?_ ?_ | refine var_mk ?_ | refine rd_var ?_ rfl | refine rd_rd ?_ | exact sub_ptr rfl rfl | exact sub_sl rfl rfl rfl | exact sub_refl_val _ _ | exact sub_sb rfl | exact sub_sbl rfl | exact row_same rfl rfl rfl | exact row_ren rfl rfl rfl | exact sub_nil rfl | ((first | refine sub_int ?_ | refine sub_sl rfl rfl ?_ | refine sub_nil ?_ | refine virt_mk ?_ | show (_ : Nat) = _); first | with_reducible rfl | omega | ((try simp only [wS]); omega) | rfl) | apply row_app1 | apply row_app2 | apply row_app1r | refine cells_succ ?_ ?_ | exact cell0 | with_reducible rfl | (refine And.left (b := True) ⟨?_, True.intro⟩; assumption) | refine sub_int ?_ | refine sub_sb ?_ | refine sub_sbl ?_ | refine sub_sl rfl rfl ?_ | (apply row_lit rfl; (focus (refine cells_succ ?_ ?_))) | refine row_same rfl ?_ ?_ | refine row_ren rfl ?_ ?_))))); (any_goals (apply okIx_mk; rfl)))
    | omega))
    all_goals omega
  have hlt : k < is.length := by omega
  have hb' : 0 ≤ is.getD k 0 ∧ is.getD k 0 < l.length ∧ ck1 (l.getD (is.getD k 0).toNat ft0) = 0 := hok (getD_mem is k 0 hlt)
  rw [hd hlt] at ht
  generalize hi' : is.getD k 0 = i at *
  have hF := one_ok x (l.getD i.toNat ft0) a hx.1 hx.2 (ft_ok hb'.2.2).1 (ft_ok hb'.2.2).2
  have hT : (k + 1 ≤ is.length ∧ apL l a (is.drop (k + 1)) (fgF (l.getD i.toNat ft0) a x) = apL l a is (honest p lo hi)) ∧ RI (fgF (l.getD i.toNat ft0) a x) := ⟨⟨by omega, ht⟩, fgF_R _ _ _ hx⟩
  (repeat' (first
    | (intro Q h; refine h ?_; clear h Q)
    | (with_reducible refine bcase_true ?_)
    | (with_reducible refine bcase_false ?_)
    | (refine bcase_mk (fun hb => ?_) (fun hb => ?_) <;> (try simp only [nS, nT, eq_self, reduceCtorEq] at hb))
    | refine nil_mk (fun hz => ?_) ?_
    | refine draw_mk (by decide +kernel) ?_
    | refine seq_go ?_
    | (refine And.intro (by simp only [Nat.zero_add, Int.toNat_natCast, hi']; omega) ?_)
    | refine And.intro (by first | omega | ((try simp only [wS]); omega) | rfl | decide) ?_
    | (simp only [Nat.zero_add, Int.toNat_natCast, hi']; ((first | apply call0 (hF) | apply calld0 (hF)); (focus ((iterate 2 (all_goals (repeat' (first | exact sub_dead | exact subL_nil | exact trivial | (intro Q h; refine h ?_; clear h Q) | refine And.intro ?_ ?_ | refine subL_cons ?_ ?_ | refine sub_agg ?_ | refine sub_tup ?_ | refine sub_fn ?_ | refine sub_bfn ?_ ?_ | refine var_mk ?_ | refine rd_var ?_ rfl | refine rd_rd ?_ | exact sub_ptr rfl rfl | exact sub_sl rfl rfl rfl | exact sub_refl_val _ _ | exact sub_sb rfl | exact sub_sbl rfl | exact row_same rfl rfl rfl | exact row_ren rfl rfl rfl | exact sub_nil rfl | ((first | refine sub_int ?_ | refine sub_sl rfl rfl ?_ | refine sub_nil ?_ | refine virt_mk ?_ | show (_ : Nat) = _); first | with_reducible rfl | omega | ((try simp only [wS]); omega) | rfl) | apply row_app1 | apply row_app2 | apply row_app1r | refine cells_succ ?_ ?_ | exact cell0 | with_reducible rfl | (refine And.left (b := True) ⟨?_, True.intro⟩; assumption) | refine sub_int ?_ | refine sub_sb ?_ | refine sub_sbl ?_ | refine sub_sl rfl rfl ?_ | (apply row_lit rfl; (focus (refine cells_succ ?_ ?_))) | refine row_same rfl ?_ ?_ | refine row_ren rfl ?_ ?_)))); done))))
    | ((first | apply call0 (hF) | apply calld0 (hF)); (focus ((iterate 2 (all_goals (repeat' (first | exact sub_dead | exact subL_nil | exact trivial | (intro Q h; refine h ?_; clear h Q) | refine And.intro ?_ ?_ | refine subL_cons ?_ ?_ | refine sub_agg ?_ | refine sub_tup ?_ | refine sub_fn ?_ | refine sub_bfn ?_ ?_ | refine var_mk ?_ | refine rd_var ?_ rfl | refine rd_rd ?_ | exact sub_ptr rfl rfl | exact sub_sl rfl rfl rfl | exact sub_refl_val _ _ | exact sub_sb rfl | exact sub_sbl rfl | exact row_same rfl rfl rfl | exact row_ren rfl rfl rfl | exact sub_nil rfl | ((first | refine sub_int ?_ | refine sub_sl rfl rfl ?_ | refine sub_nil ?_ | refine virt_mk ?_ | show (_ : Nat) = _); first | with_reducible rfl | omega | ((try simp only [wS]); omega) | rfl) | apply row_app1 | apply row_app2 | apply row_app1r | refine cells_succ ?_ ?_ | exact cell0 | with_reducible rfl | (refine And.left (b := True) ⟨?_, True.intro⟩; assumption) | refine sub_int ?_ | refine sub_sb ?_ | refine sub_sbl ?_ | refine sub_sl rfl rfl ?_ | (apply row_lit rfl; (focus (refine cells_succ ?_ ?_))) | refine row_same rfl ?_ ?_ | refine row_ren rfl ?_ ?_)))); done)))
    | (apply next_sub (Subtype.mk (k + 1, fgF (l.getD i.toNat ft0) a x) hT); (focus (apply le_mk [some 0, some 1, some 2, some 3]; (focus (iterate 2 (all_goals (repeat' (first | exact sub_dead | exact subL_nil | exact trivial | (intro Q h; refine h ?_; clear h Q) | refine And.intro ?_ ?_ | refine subL_cons ?_ ?_ | refine sub_agg ?_ | refine sub_tup ?_ | refine sub_fn ?_ | refine sub_bfn ?_ ?_ | refine var_mk ?_ | refine rd_var ?_ rfl | refine rd_rd ?_ | exact sub_ptr rfl rfl | exact sub_sl rfl rfl rfl | exact sub_refl_val _ _ | exact sub_sb rfl | exact sub_sbl rfl | exact row_same rfl rfl rfl | exact row_ren rfl rfl rfl | exact sub_nil rfl | ((first | refine sub_int ?_ | refine sub_sl rfl rfl ?_ | refine sub_nil ?_ | refine virt_mk ?_ | show (_ : Nat) = _); first | with_reducible rfl | omega | ((try simp only [wS]); omega) | rfl) | apply row_app1 | apply row_app2 | apply row_app1r | refine cells_succ ?_ ?_ | exact cell0 | with_reducible rfl | (refine And.left (b := True) ⟨?_, True.intro⟩; assumption) | refine sub_int ?_ | refine sub_sb ?_ | refine sub_sbl ?_ | refine sub_sl rfl rfl ?_ | (apply row_lit rfl; (focus (refine cells_succ ?_ ?_))) | refine row_same rfl ?_ ?_ | refine row_ren rfl ?_ ?_))))); (any_goals (apply okIx_mk; rfl)))); (all_goals (try (first | omega | (simp only; omega)))))
    | omega))
end Go.Vx.L55

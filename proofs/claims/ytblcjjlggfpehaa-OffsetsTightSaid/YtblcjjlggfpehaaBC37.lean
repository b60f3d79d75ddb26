/- Lemmas of a small executor for the model, and contracts of functions, used for the law that this claim proves. No condition. -/
import Derived.Test.YtblcjjlggfpehaaBC23
import Derived.Test.YtblcjjlggfpehaaBD7
set_option linter.unusedSimpArgs false
set_option linter.unusedVariables false
set_option maxRecDepth 100000
namespace Go.Vx.L53
open Go Go.Proofs
/-- The path as far as it is known: m steps are left. -/
def ptF (l : List Cn) (n m : Nat) : List Int := List.replicate m 0 ++ (ptN l n (n - m)).2
theorem ptF_len {l : List Cn} {n m : Nat} (h : m ≤ n) : (ptF l n m).length = n := by
  unfold ptF; rw [List.length_append, List.length_replicate, ptN_len]; omega
theorem ptN_step {l : List Cn} {n j : Nat} (h : j < n) : ptN l n (n - j) = ((l.getD ((byN l n j).getD (ptN l n (n - (j + 1))).1.toNat 0).toNat cn0).a, (byN l n j).getD (ptN l n (n - (j + 1))).1.toNat 0 :: (ptN l n (n - (j + 1))).2) := by
  rw [show n - j = (n - (j + 1)) + 1 by omega]
  show ((l.getD ((byN l n (n - 1 - (n - (j + 1)))).getD _ 0).toNat cn0).a, _ :: _) = _
  rw [show n - 1 - (n - (j + 1)) = j by omega]
theorem ptF_set {l : List Cn} {n j : Nat} (h : j < n) : ptF l n j = (ptF l n (j + 1)).set j ((byN l n j).getD (ptN l n (n - (j + 1))).1.toNat 0) := by
  unfold ptF
  rw [ptN_step h, List.replicate_succ', List.append_assoc, List.set_append_right _ _ (by simp), List.length_replicate, Nat.sub_self]
  rfl
set_option maxHeartbeats 2000000 in
theorem path_ok (l : List Cn) (cap : Option Nat) (n : Nat) (hn : 1 ≤ n ∧ n ≤ 160) (hl4 : l.length ≤ 4096) (hok : allOK n l) (hcy : cyc l n = true) :
    Runs Try.prog 60 [.agg [.sl 1 1 0 n none, .sl 2 1 0 n none, .val (.int .i64 (endF (byN l n (n - 1))))], aN l cap] [cB false l, iB true (lst l n (n - 1)), fB n (lss l n n)] (Det (.sl 3 1 0 n none) [cB false l, iB true (lst l n (n - 1)), fB n (lss l n n), iB true (pth l n)]) := by
  have hss := lss_len l n n
  have hXl := lst_len l n (n - 1)
  have hpI := fun x hx => pt_inv hn.1 hok hcy x hx
  have hpS := fun j (h : j < n) => ptN_step (l := l) h
  have hfS := fun j (h : j < n) => ptF_set (l := l) h
  have hfL := fun j (h : j ≤ n) => ptF_len (l := l) h
  have hget := fun j (h : j < n) => lss_get l n h
  have h0 : (ptN l n (n - n)).1 = endF (byN l n (n - 1)) := by rw [Nat.sub_self]; rfl
  have hf0 : ptF l n n = List.replicate n 0 := by unfold ptF; rw [Nat.sub_self]; simp [ptN]
  have hfn : ptF l n 0 = pth l n := by unfold ptF pth; simp
  rw [← hfn, ← h0]
  generalize lst l n (n - 1) = X at *
  generalize lss l n n = S at *
  refine Runs.mk tabOK Try.call60 Try.func60 rfl Try.ntmps60 Try.results60 rfl ?_
  (repeat' (first
    | (intro Q h; refine h ?_; clear h Q)
    | refine seq_go ?_
    | refine And.intro (by first | omega | ((try simp only [wS]); omega) | rfl | decide) ?_
    ))
  refine loop_inv (σ := Nat) (fun x => x ≤ n) (fun x => ⟨[(1, aN l cap), (2, .ptr 3 3 0 0), (5, .sl 4 1 0 n none), (6, .val (.int .i64 (ptN l n (n - x)).1)), (7, .val (.int .i64 ((x : Int) - 1)))], [cB false l, iB true X, fB n S, .var [.sl 1 1 0 n none, .sl 2 1 0 n none, .val (.int .i64 (endF (byN l n (n - 1))))], iB true (ptF l n x)]⟩) (fun x => x) (n) ?_ ?_ ?_
  · omega
  · rw [hf0]
    (apply le_mk [some 0, some 1, some 2, some 3, some 4]; (focus (iterate 2 (all_goals (repeat' (first | exact fam_same rfl rfl rfl | exact subL_nil | exact trivial | (intro Q h; refine h ?_; clear h Q) | refine And.intro ?_ ?_ | refine subL_cons ?_ ?_ | refine var_mk ?_ | exact sub_ptr rfl rfl | exact sub_sl rfl rfl rfl | exact sub_refl_val _ _ | exact row_same rfl rfl rfl | ((first | refine sub_int ?_ ); first | with_reducible rfl | omega | ((try simp only [wS]); omega) | rfl) ))))); (any_goals (apply okIx_mk; rfl)))
    all_goals first
      | exact row_rep (x := 0) (subL_cons (sub_refl_val _ _) subL_nil) (by simp) (by simp)
      | fail
  rintro x hx
  have hF := hfL x hx
  by_cases hx0 : 0 < x
  · obtain ⟨j, rfl⟩ : ∃ j, x = j + 1 := ⟨x - 1, by omega⟩
    have e : ((j + 1 : Nat) : Int) - 1 = j := by omega
    rw [e]
    have hz : 0 + Int.toNat (j : Int) = j := by omega
    obtain ⟨⟨v0, v1⟩, hb, _⟩ := hpI (n - (j + 1)) (by omega)
    have hb := hb (by omega)
    rw [show n - 1 - (n - (j + 1)) = j by omega] at hb
    have hstep := hpS j (by omega)
    have hset := hfS j (by omega)
    have hg := hget j (by omega)
    have hrow := byN_len l n j
    generalize hv : (ptN l n (n - (j + 1))).1 = v at *
    have h1 := famF_fst intC 0 S (0 + Int.toNat (j : Int))
    rw [hz, hg, hrow, ← hz] at h1
    have hgz : S.getD (0 + Int.toNat (j : Int)) [] = byN l n j := by rw [hz]; exact hg
    have hbz : 0 ≤ (S.getD (0 + Int.toNat (j : Int)) []).getD (0 + v.toNat) 0 ∧ (S.getD (0 + Int.toNat (j : Int)) []).getD (0 + v.toNat) 0 < l.length := by rw [hz, hg, Nat.zero_add]; exact hb
    have hst1 : (ptN l n (n - j)).1 = (l.getD (0 + ((S.getD (0 + Int.toNat (j : Int)) []).getD (0 + v.toNat) 0).toNat) cn0).a := by rw [hz, hg, Nat.zero_add, Nat.zero_add, hstep]
    have hset' : ptF l n j = (ptF l n (j + 1)).set (0 + Int.toNat (j : Int)) ((S.getD (0 + Int.toNat (j : Int)) []).getD (0 + v.toNat) 0) := by rw [hz, hg, Nat.zero_add]; exact hset
    clear hset hstep hb hgz
    generalize ptF l n (j + 1) = T at *
    (repeat' (first
    | (intro Q h; refine h ?_; clear h Q)
    | (refine bcase_mk (fun hb => ?_) (fun hb => ?_) <;> (try simp only [nS, nT, eq_self, reduceCtorEq] at hb) <;> (try (exfalso; (omega); done)))
    | refine seq_go ?_
    | (first | refine And.intro (show (v : Int) < ((famF intC 0 S (0 + Int.toNat (j : Int))).1 : Nat) from by omega) ?_ | refine And.intro (show 0 + Int.toNat v < (famF intC 0 S (0 + Int.toNat (j : Int))).1 from by omega) ?_)
    | refine And.intro (by first | omega | ((try simp only [wS]); omega) | rfl | decide) ?_
    | (simp only [Nat.beq_refl, cond_true, Bool.true_and])
    | (apply next_sub (Subtype.mk j (by first | omega | (simp only; omega))); (focus (rw [hst1, hset']; apply le_mk [some 0, some 1, some 2, some 3, some 4]; (focus (iterate 2 (all_goals (repeat' (first | exact fam_same rfl rfl rfl | (refine row_setl rfl (subL_cons (sub_int ?_) subL_nil) ?_ rfl rfl rfl) | exact subL_nil | exact trivial | (intro Q h; refine h ?_; clear h Q) | refine And.intro ?_ ?_ | refine subL_cons ?_ ?_ | refine var_mk ?_ | exact sub_ptr rfl rfl | exact sub_sl rfl rfl rfl | exact sub_refl_val _ _ | exact row_same rfl rfl rfl | ((first | refine sub_int ?_ ); first | with_reducible rfl | omega | ((try simp only [wS]); omega) | rfl) | with_reducible rfl ))))); (any_goals (apply okIx_mk; rfl)))); (all_goals (try (first | omega | (simp only; omega)))))
    ))
  · have hx0 : x = 0 := by omega
    subst hx0
    (repeat' (first
    | (intro Q h; refine h ?_; clear h Q)
    | (refine bcase_mk (fun hb => ?_) (fun hb => ?_) <;> (try simp only [nS, nT, eq_self, reduceCtorEq] at hb) <;> (try (exfalso; (omega); done)))
    | refine seq_go ?_
    | (apply ret_mk [some 0, some 1, some 2, some 4]; (focus (iterate 2 (all_goals (repeat' (first | exact fam_same rfl rfl rfl | exact trivial | (intro Q h; refine h ?_; clear h Q) | refine And.intro ?_ ?_ | exact sub_sl rfl rfl rfl | exact row_same rfl rfl rfl ))))); (any_goals (apply okIx_mk; rfl)))
    ))
end Go.Vx.L53

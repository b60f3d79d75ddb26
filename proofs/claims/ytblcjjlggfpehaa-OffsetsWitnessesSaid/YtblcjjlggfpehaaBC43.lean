/- Lemmas of a small executor for the model, and contracts of functions, used for the law that this claim proves. No condition. -/
import Derived.Test.YtblcjjlggfpehaaBC42
import Derived.Test.YtblcjjlggfpehaaBC41
import Derived.Test.YtblcjjlggfpehaaBC17
set_option linter.unusedSimpArgs false
set_option linter.unusedVariables false
set_option maxRecDepth 100000
namespace Go.Vx.L53
open Go Go.Proofs
/-- Does one of the first constraints of a cycle meet a variable? -/
def fnP (A : List Cn) (K : List Int) (i : Int) : Nat → Bool
  | 0 => false
  | y + 1 => (fnP A K i y || decide ((A.getD (K.getD y 0).toNat cn0).a = i)) || decide ((A.getD (K.getD y 0).toNat cn0).b = i)
def rfE (A : List Cn) (K : List Int) : Nat → List Int
  | 0 => []
  | x + 1 => rfE A K x ++ bif fnP A K ((x : Int) + 1) K.length then [(x : Int)] else []
theorem rfE_len (A : List Cn) (K : List Int) : ∀ x, (rfE A K x).length ≤ x
  | 0 => by simp [rfE]
  | x + 1 => by
    have := rfE_len A K x
    unfold rfE
    cases fnP A K ((x : Int) + 1) K.length <;> simp <;> omega
def rblA (l : List En) (c : Cf) : List Int := if blO l c then rfE (sysA l c) (rcyA (sysN l c) (sysA l c)) l.length else []
set_option maxHeartbeats 4000000 in
theorem rblame_ok (l : List En) (cap : Option Nat) (c : Cf) (cap2 : Option Nat) (hl : l.length ≤ maxLen) (hc : c.tol.length ≤ maxLen) :
    Runs Try.prog 23 [aL l cap, aC c 1 cap2] [gL l, gT c] (Det (.tup [.sl 2 1 0 (rblA l c).length none, .sb (blO l c)]) [gL l, gT c, iB true (rblA l c)]) := by
  have hmx : maxLen = 9223372036854775807 := by decide
  have hsy := rsystem_ok l cap c cap2 hl hc
  have hsl := sysA_len l c
  by_cases h0 : sysE l c = 0
  rotate_left
  · have hO : blO l c = false := by unfold blO; rw [decide_eq_false h0]; rfl
    have hA : rblA l c = [] := by unfold rblA; rw [hO]; rfl
    rw [hA, hO]
    generalize sysE l c = w at *
    refine Runs.mk tabOK Try.call23 Try.func23 rfl Try.ntmps23 Try.results23 rfl ?_
    (repeat' (first
    | (intro Q h; refine h ?_; clear h Q)
    | (refine bcase_mk (fun hb => ?_) (fun hb => ?_) <;> (try simp only [nS, nT, eq_self, reduceCtorEq] at hb) <;> (try (exfalso; (omega); done)))
    | refine seq_go ?_
    | ((first | apply call_detx [some 0, some 1] (hsy) ); (focus ((iterate 2 (all_goals (repeat' (first | exact subL_nil | exact trivial | (intro Q h; refine h ?_; clear h Q) | refine And.intro ?_ ?_ | refine subL_cons ?_ ?_ | refine sub_agg ?_ | exact sub_sl rfl rfl rfl | exact sub_refl_val _ _ | exact row_same rfl rfl rfl )))))); (any_goals (first | (apply nodup_mk; rfl) )))
    | (apply ret_mk [some 0, some 1, none]; (focus (iterate 2 (all_goals (repeat' (first | exact subL_nil | exact trivial | (intro Q h; refine h ?_; clear h Q) | refine And.intro ?_ ?_ | refine subL_cons ?_ ?_ | refine sub_tup ?_ | exact sub_sbl rfl | exact row_same rfl rfl rfl | exact sub_nil rfl | ((first | refine virt_mk ?_ ); first | with_reducible rfl | omega | ((try simp only [wS]); omega) | rfl) ))))); (any_goals (apply okIx_mk; rfl)))
    ))
  have hcy := rcycle_ok (sysN l c) (sysA l c) none (by omega)
  have hO : blO l c = cyc (sysA l c) (l.length + 1) := by unfold blO; rw [decide_eq_true h0]; rfl
  have hck := sys_cchk h0
  have hok := sysA_ok h0
  rw [(cycA_sys h0).2] at hcy
  rw [h0] at hsy
  cases hq : cyc (sysA l c) (l.length + 1)
  · rw [hq] at hcy hO
    have hA : rblA l c = [] := by unfold rblA; rw [hO]; rfl
    rw [hA, hO]
    generalize rcyA (sysN l c) (sysA l c) = K at *
    refine Runs.mk tabOK Try.call23 Try.func23 rfl Try.ntmps23 Try.results23 rfl ?_
    (repeat' (first
    | (intro Q h; refine h ?_; clear h Q)
    | (refine bcase_mk (fun hb => ?_) (fun hb => ?_) <;> (try simp only [nS, nT, eq_self, reduceCtorEq] at hb) <;> (try (exfalso; (omega); done)))
    | refine seq_go ?_
    | ((first | apply call_detx [some 0, some 1] (hsy) ); (focus ((iterate 2 (all_goals (repeat' (first | exact subL_nil | exact trivial | (intro Q h; refine h ?_; clear h Q) | refine And.intro ?_ ?_ | refine subL_cons ?_ ?_ | refine sub_agg ?_ | exact sub_sl rfl rfl rfl | exact sub_refl_val _ _ | exact row_same rfl rfl rfl )))))); (any_goals (first | (apply nodup_mk; rfl) )))
    | ((first | apply call1 (hcy) ); (focus (iterate 2 (all_goals (repeat' (first | exact subL_nil | exact trivial | (intro Q h; refine h ?_; clear h Q) | refine And.intro ?_ ?_ | refine subL_cons ?_ ?_ | exact sub_sl rfl rfl rfl | exact sub_refl_val _ _ | exact row_ren rfl rfl rfl ))))); (try (any_goals fail)))
    | (apply ret_mk [some 0, some 1, none]; (focus (iterate 2 (all_goals (repeat' (first | exact subL_nil | exact trivial | (intro Q h; refine h ?_; clear h Q) | refine And.intro ?_ ?_ | refine subL_cons ?_ ?_ | refine sub_tup ?_ | exact sub_sbl rfl | exact row_same rfl rfl rfl | exact sub_nil rfl | ((first | refine virt_mk ?_ ); first | with_reducible rfl | omega | ((try simp only [wS]); omega) | rfl) ))))); (any_goals (apply okIx_mk; rfl)))
    ))
  have hN : sysN l c = l.length + 1 := by unfold sysN; rw [if_pos h0]
  have h159 := (sys_zero h0).2.1
  have hla : 0 ≤ laR (sysA l c) (l.length + 1) (l.length + 1) := by
    have h1 := (laR_ok hok (l.length + 1)).2
    by_cases h : laR (sysA l c) (l.length + 1) (l.length + 1) < 0
    · have : cyc (sysA l c) (l.length + 1) = false := (cyc_iff (by omega) hok).2 ⟨_, lst_pot hok (h1.1 h)⟩
      rw [hq] at this; cases this
    · omega
  have hm : ∀ i ∈ rcyA (sysN l c) (sysA l c), 0 ≤ i ∧ i.toNat < (sysA l c).length := fun i hi => by
    unfold rcyA at hi
    rw [hN, show ((l.length : Int) + 1).toNat = l.length + 1 by omega, if_pos ⟨by rw [← hN]; exact hck, hq⟩, List.mem_reverse] at hi
    exact rcB_mem hok hla i hi
  have hKl : (rcyA (sysN l c) (sysA l c)).length ≤ 320 := by
    unfold rcyA
    rw [hN, show ((l.length : Int) + 1).toNat = l.length + 1 by omega, if_pos ⟨by rw [← hN]; exact hck, hq⟩, List.length_reverse]
    unfold rcB
    rw [bkL_len]
    have := bkX_le (sysA l c) (csR (sysA l c) (l.length + 1) (l.length + 1 + 1)) (rcV (sysA l c) (l.length + 1)) (l.length + 1) 0
    omega
  rw [hq] at hcy hO
  have hA : rblA l c = rfE (sysA l c) (rcyA (sysN l c) (sysA l c)) l.length := by unfold rblA; rw [hO]; rfl
  rw [hA, hO]
  rw [hN] at hsy hcy
  rw [hN] at hm hKl ⊢
  generalize rcyA ((l.length : Int) + 1) (sysA l c) = K at *
  have hEl := rfE_len (sysA l c) K
  have hEs : ∀ x, rfE (sysA l c) K (x + 1) = rfE (sysA l c) K x ++ bif fnP (sysA l c) K ((x : Int) + 1) K.length then [(x : Int)] else [] := fun _ => rfl
  have hE0 : rfE (sysA l c) K 0 = [] := rfl
  have hFs : ∀ i y, fnP (sysA l c) K i (y + 1) = ((fnP (sysA l c) K i y || decide (((sysA l c).getD (K.getD y 0).toNat cn0).a = i)) || decide (((sysA l c).getD (K.getD y 0).toNat cn0).b = i)) := fun _ _ => rfl
  have hF0 : ∀ i, fnP (sysA l c) K i 0 = false := fun _ => rfl
  generalize sysA l c = A at *
  generalize rfE A K = B at *
  generalize fnP A K = F at *
  refine Runs.mk tabOK Try.call23 Try.func23 rfl Try.ntmps23 Try.results23 rfl ?_
  (repeat' (first
    | (intro Q h; refine h ?_; clear h Q)
    | (refine bcase_mk (fun hb => ?_) (fun hb => ?_) <;> (try simp only [nS, nT, eq_self, reduceCtorEq] at hb) <;> (try (exfalso; (omega); done)))
    | refine seq_go ?_
    | ((first | apply call_detx [some 0, some 1] (hsy) ); (focus ((iterate 2 (all_goals (repeat' (first | exact subL_nil | exact trivial | (intro Q h; refine h ?_; clear h Q) | refine And.intro ?_ ?_ | refine subL_cons ?_ ?_ | refine sub_agg ?_ | exact sub_sl rfl rfl rfl | exact sub_refl_val _ _ | exact row_same rfl rfl rfl )))))); (any_goals (first | (apply nodup_mk; rfl) )))
    | ((first | apply call1 (hcy) ); (focus (iterate 2 (all_goals (repeat' (first | exact subL_nil | exact trivial | (intro Q h; refine h ?_; clear h Q) | refine And.intro ?_ ?_ | refine subL_cons ?_ ?_ | exact sub_sl rfl rfl rfl | exact sub_refl_val _ _ | exact row_ren rfl rfl rfl ))))); (try (any_goals fail)))
    ))
  refine loop_inv (σ := Nat) (fun x => x ≤ l.length) (fun x => ⟨[(6, .val (.int .i64 ((l.length : Int) + 1))), (7, .sl 2 3 0 A.length none), (9, .sl 3 1 0 K.length none), (11, .sl 4 1 0 (B x).length none), (12, .val (.int .i64 ((x : Int) + 1)))], [gL l, gT c, cB true A, iB true K, iB true (B x)]⟩) (fun x => l.length - x) (0) ?_ ?_ ?_
  · omega
  · rw [hE0]
    (apply le_mk [some 0, some 1, some 3, some 4, none]; (focus (iterate 2 (all_goals (repeat' (first | exact trivial | (intro Q h; refine h ?_; clear h Q) | refine And.intro ?_ ?_ | exact sub_sl rfl rfl rfl | exact sub_refl_val _ _ | exact row_same rfl rfl rfl | exact row_ren rfl rfl rfl | exact sub_nil rfl | ((first | refine virt_mk ?_ ); first | with_reducible rfl | omega | ((try simp only [wS]); omega) | rfl) ))))); (any_goals (apply okIx_mk; rfl)))
  rintro r hr
  have hBr := hEl r
  by_cases hrl : r < l.length
  · have hs := hEs r
    generalize B r = E at *
    (repeat' (first
    | (intro Q h; refine h ?_; clear h Q)
    | (refine bcase_mk (fun hb => ?_) (fun hb => ?_) <;> (try simp only [nS, nT, eq_self, reduceCtorEq] at hb) <;> (try (exfalso; (omega); done)))
    | refine seq_go ?_
    ))
    refine loop_inv (σ := Nat) (fun x => x ≤ K.length) (fun x => ⟨[(6, .val (.int .i64 ((l.length : Int) + 1))), (7, .sl 2 3 0 A.length none), (9, .sl 3 1 0 K.length none), (11, .sl 4 1 0 E.length none), (12, .val (.int .i64 ((r : Int) + 1))), (13, .sb (F ((r : Int) + 1) x)), (14, .val (.int .i64 x))], [gL l, gT c, cB true A, iB true K, iB true E]⟩) (fun x => K.length - x) (0) ?_ ?_ ?_
    · omega
    · rw [hF0]
      (apply le_mk [some 0, some 1, some 2, some 3, some 4]; (focus (iterate 2 (all_goals (repeat' (first | exact trivial | (intro Q h; refine h ?_; clear h Q) | refine And.intro ?_ ?_ | exact sub_sl rfl rfl rfl | exact sub_refl_val _ _ | exact sub_sbl rfl | exact row_same rfl rfl rfl ))))); (any_goals (apply okIx_mk; rfl)))
    rintro y hy
    by_cases hyK : y < K.length
    · have hz : 0 + Int.toNat (y : Int) = y := by omega
      have hKy := hm _ (getD_mem K y 0 hyK)
      have hf := hFs ((r : Int) + 1) y
      rw [← hz] at hKy
      have hf' : F ((r : Int) + 1) (y + 1) = ((F ((r : Int) + 1) y || decide ((A.getD (0 + (K.getD (0 + Int.toNat (y : Int)) 0).toNat) cn0).a = (r : Int) + 1)) || decide ((A.getD (0 + (K.getD (0 + Int.toNat (y : Int)) 0).toNat) cn0).b = (r : Int) + 1)) := by rw [hz, Nat.zero_add]; exact hf
      generalize F ((r : Int) + 1) y = G at *
      cases G
      · (repeat' (first
    | (intro Q h; refine h ?_; clear h Q)
    | (with_reducible refine bcase_false ?_)
    | (refine bcase_mk (fun hb => ?_) (fun hb => ?_) <;> (try simp only [nS, nT, eq_self, reduceCtorEq] at hb) <;> (try (exfalso; (omega); done)))
    | refine seq_go ?_
    | refine And.intro (by first | omega | ((try simp only [wS]); omega) | rfl | decide) ?_
    | (apply next_sub (Subtype.mk (y + 1) (by first | omega | (simp only; omega))); (focus (rw [hf']; apply le_mk [some 0, some 1, some 2, some 3, some 4]; (focus (iterate 2 (all_goals (repeat' (first | exact trivial | (intro Q h; refine h ?_; clear h Q) | refine And.intro ?_ ?_ | exact sub_sl rfl rfl rfl | exact sub_refl_val _ _ | exact row_same rfl rfl rfl | ((first | refine sub_int ?_ ); first | with_reducible rfl | omega | ((try simp only [wS]); omega) | rfl) | refine sub_sb ?_ | refine sub_sbl ?_ ))))); (any_goals (apply okIx_mk; rfl)))); (all_goals (try (first | (simp only; omega)))))
    ))
        all_goals first
          | (rw [decide_eq_true hb]; rfl)
          | (rw [decide_eq_false hb]; rfl)
          | fail
      · (repeat' (first
    | (intro Q h; refine h ?_; clear h Q)
    | (with_reducible refine bcase_true ?_)
    | (refine bcase_mk (fun hb => ?_) (fun hb => ?_) <;> (try simp only [nS, nT, eq_self, reduceCtorEq] at hb) <;> (try (exfalso; (omega); done)))
    | refine seq_go ?_
    | (apply next_sub (Subtype.mk (y + 1) (by first | omega | (simp only; omega))); (focus (rw [hf']; apply le_mk [some 0, some 1, some 2, some 3, some 4]; (focus (iterate 2 (all_goals (repeat' (first | exact trivial | (intro Q h; refine h ?_; clear h Q) | refine And.intro ?_ ?_ | exact sub_sl rfl rfl rfl | exact sub_refl_val _ _ | exact sub_sbl rfl | exact row_same rfl rfl rfl | ((first | refine sub_int ?_ ); first | with_reducible rfl | omega | ((try simp only [wS]); omega) | rfl) ))))); (any_goals (apply okIx_mk; rfl)))); (all_goals (try (first | (simp only; omega)))))
    ))
        all_goals first
          | (rw [decide_eq_true hb]; rfl)
          | (rw [decide_eq_false hb]; rfl)
          | fail
    · have hyy : y = K.length := by omega
      subst hyy
      generalize F ((r : Int) + 1) K.length = G at *
      cases G
      · simp only [cond_false, List.append_nil] at hs
        (repeat' (first
    | (intro Q h; refine h ?_; clear h Q)
    | (with_reducible refine bcase_false ?_)
    | (refine bcase_mk (fun hb => ?_) (fun hb => ?_) <;> (try simp only [nS, nT, eq_self, reduceCtorEq] at hb) <;> (try (exfalso; (omega); done)))
    | refine seq_go ?_
    | (apply next_sub (Subtype.mk (r + 1) (by first | omega | (simp only; omega))); (focus (rw [hs]; apply le_mk [some 0, some 1, some 2, some 3, some _]; (focus (iterate 2 (all_goals (repeat' (first | exact trivial | (intro Q h; refine h ?_; clear h Q) | refine And.intro ?_ ?_ | exact sub_sl rfl rfl rfl | exact sub_refl_val _ _ | exact row_same rfl rfl rfl | ((first | refine sub_int ?_ ); first | with_reducible rfl | omega | ((try simp only [wS]); omega) | rfl) ))))); (any_goals (apply okIx_mk; rfl)))); (all_goals (try (first | (simp only; omega)))))
    ))
        all_goals first
          | (rw [List.length_append]; rfl)
          | (rw [show (r : Int) + 1 - 1 = r by omega, cwrap (by omega) (by omega)])
          | fail
      · simp only [cond_true] at hs
        (repeat' (first
    | (intro Q h; refine h ?_; clear h Q)
    | (with_reducible refine bcase_true ?_)
    | (refine bcase_mk (fun hb => ?_) (fun hb => ?_) <;> (try simp only [nS, nT, eq_self, reduceCtorEq] at hb) <;> (try (exfalso; (omega); done)))
    | refine seq_go ?_
    | refine And.intro (by first | omega | ((try simp only [wS]); omega) | rfl | decide) ?_
    | (apply next_sub (Subtype.mk (r + 1) (by first | omega | (simp only; omega))); (focus (rw [hs]; apply le_mk [some 0, some 1, some 2, some 3, some _]; (focus (iterate 2 (all_goals (repeat' (first | exact trivial | (intro Q h; refine h ?_; clear h Q) | refine And.intro ?_ ?_ | exact sub_sl rfl rfl rfl | exact sub_refl_val _ _ | exact row_same rfl rfl rfl | ((first | refine sub_int ?_ | refine sub_sl rfl rfl ?_ | show (_ : Nat) = _); first | with_reducible rfl | omega | ((try simp only [wS]); omega) | rfl) | apply row_app1 | refine cells_succ ?_ ?_ | exact cell0 | refine sub_sl rfl rfl ?_ ))))); (any_goals (apply okIx_mk; rfl)))); (all_goals (try (first | (simp only; omega)))))
    ))
        all_goals first
          | (rw [List.length_append]; rfl)
          | (rw [show (r : Int) + 1 - 1 = r by omega, cwrap (by omega) (by omega)])
          | fail
  · have hrr : l.length = r := by omega
    have hrB : B l.length = B r := by rw [hrr]
    rw [hrB]
    (repeat' (first
    | (intro Q h; refine h ?_; clear h Q)
    | (refine bcase_mk (fun hb => ?_) (fun hb => ?_) <;> (try simp only [nS, nT, eq_self, reduceCtorEq] at hb) <;> (try (exfalso; (omega); done)))
    | refine seq_go ?_
    | (apply ret_mk [some 0, some 1, some 4]; (focus (iterate 2 (all_goals (repeat' (first | exact subL_nil | exact trivial | (intro Q h; refine h ?_; clear h Q) | refine And.intro ?_ ?_ | refine subL_cons ?_ ?_ | refine sub_tup ?_ | exact sub_sl rfl rfl rfl | exact sub_sbl rfl | exact row_same rfl rfl rfl ))))); (any_goals (apply okIx_mk; rfl)))
    ))
end Go.Vx.L53

/- Lemmas of a small executor for the model, and contracts of functions, used for the law that this claim proves. No condition. -/
import Derived.Test.YtblcjjlggfpehaaBC38
import Derived.Test.YtblcjjlggfpehaaBC26
import Derived.Test.YtblcjjlggfpehaaBD8
import Derived.Test.YtblcjjlggfpehaaBS53
set_option linter.unusedSimpArgs false
set_option linter.unusedVariables false
set_option maxRecDepth 100000
namespace Go.Vx.L53
open Go Go.Proofs
theorem sort_ok (l : List Int) (t : TypeId) (cap : Option Nat) (hl : l.length ≤ 1000000) :
    Runs Try.prog 42 [.sl 0 1 0 l.length cap] [.arr true t 1 l.length (intF l)] (Det (.tup []) [.arr true t 1 l.length (intF (srt l))]) :=
  sort_bridge Try.call42 (Any.slices_Sort_int Try.lays189) (Any.slices_Sort_int_none Try.lays189) l t cap hl
theorem compact_ok (l : List Int) (t : TypeId) (hl : l.length ≤ 1000000) :
    Runs Try.prog 43 [.sl 0 1 0 l.length none] [.arr true t 1 l.length (intF l)] (Det (.sl 0 1 0 (cmp l).length none) [.arr true t 1 l.length (intF (cmpZ l))]) :=
  compact_bridge Try.call43 (fun blk off cap zs w hH _ h3 h4 => Any.slices_Compact_int Try.lays20c blk off cap zs w hH h3 h4) (Any.slices_Compact_int_empty Try.lays20c) l t hl
/-- The entries after the first y variables of a constraint. -/
def inE (E : List Int) (a b : Int) : Nat → List Int
  | 0 => E
  | 1 => E ++ vE a
  | _ => E ++ vE a ++ vE b
theorem vE_pos {v : Int} (h : v > 0) : vE v = [v - 1] := if_pos h
theorem vE_neg {v : Int} (h : ¬ v > 0) : vE v = [] := if_neg h
theorem cyF_len (l : List Cn) (p : List Int) : ∀ m x, (cyF l p m x).length ≤ x + m
  | 0, x => by simp [cyF]
  | m + 1, x => by
    have h := stN_len l p x
    have ih := cyF_len l p m (x + 1)
    unfold cyF
    split
    · omega
    · split
      · rw [List.length_drop]; simp [stP]; omega
      · omega
theorem cycA_sys {l : List En} {c : Cf} (h : sysE l c = 0) : cycA (sysN l c) (sysA l c) = blK l c ∧ cycO (sysN l c) (sysA l c) = cyc (sysA l c) (l.length + 1) := by
  have h1 := sys_cchk h
  unfold cycA cycO blK
  rw [if_pos h1, decide_eq_true h1, sysN_is h, show ((l.length : Int) + 1).toNat = l.length + 1 by omega]
  exact ⟨rfl, rfl⟩
set_option maxHeartbeats 4000000 in
theorem blame_ok (l : List En) (cap : Option Nat) (c : Cf) (cap2 : Option Nat) (hl : l.length ≤ maxLen) (hc : c.tol.length ≤ maxLen) :
    Runs Try.prog 18 [aL l cap, aC c 1 cap2] [gL l, gT c] (Det (.tup [.sl 2 1 0 (blA l c).length none, .sb (blO l c)]) [gL l, gT c, iB true (blA l c)]) := by
  have hmx : maxLen = 9223372036854775807 := by decide
  have hsy := system_ok l cap c cap2 hl hc
  have hsl := sysA_len l c
  by_cases h0 : sysE l c = 0
  rotate_left
  · have hO : blO l c = false := by unfold blO; rw [decide_eq_false h0]; rfl
    have hA : blA l c = [] := by unfold blA; rw [hO]; rfl
    rw [hA, hO]
    generalize sysE l c = w at *
    refine Runs.mk tabOK Try.call18 Try.func18 rfl Try.ntmps18 Try.results18 rfl ?_
    (repeat' (first
    | (intro Q h; refine h ?_; clear h Q)
    | (refine bcase_mk (fun hb => ?_) (fun hb => ?_) <;> (try simp only [nS, nT, eq_self, reduceCtorEq] at hb) <;> (try (exfalso; (omega); done)))
    | refine seq_go ?_
    | ((first | apply call_detx [some 0, some 1] (hsy) ); (focus ((iterate 2 (all_goals (repeat' (first | exact subL_nil | exact trivial | (intro Q h; refine h ?_; clear h Q) | refine And.intro ?_ ?_ | refine subL_cons ?_ ?_ | refine sub_agg ?_ | exact sub_sl rfl rfl rfl | exact sub_refl_val _ _ | exact row_same rfl rfl rfl )))))); (any_goals (first | (apply nodup_mk; rfl) )))
    | (apply ret_mk [some 0, some 1, none]; (focus (iterate 2 (all_goals (repeat' (first | exact subL_nil | exact trivial | (intro Q h; refine h ?_; clear h Q) | refine And.intro ?_ ?_ | refine subL_cons ?_ ?_ | refine sub_tup ?_ | exact sub_sbl rfl | exact row_same rfl rfl rfl | exact sub_nil rfl | ((first | refine virt_mk ?_ ); first | with_reducible rfl | omega | ((try simp only [wS]); omega) | rfl) ))))); (any_goals (apply okIx_mk; rfl)))
    ))
  have hcy := cycle_ok (sysN l c) (sysA l c) none (by omega)
  rw [(cycA_sys h0).1, (cycA_sys h0).2] at hcy
  have hO : blO l c = cyc (sysA l c) (l.length + 1) := by unfold blO; rw [decide_eq_true h0]; rfl
  rw [h0] at hsy
  cases hq : cyc (sysA l c) (l.length + 1)
  · rw [hq] at hcy hO
    have hA : blA l c = [] := by unfold blA; rw [hO]; rfl
    rw [hA, hO]
    generalize blK l c = K at *
    refine Runs.mk tabOK Try.call18 Try.func18 rfl Try.ntmps18 Try.results18 rfl ?_
    (repeat' (first
    | (intro Q h; refine h ?_; clear h Q)
    | (refine bcase_mk (fun hb => ?_) (fun hb => ?_) <;> (try simp only [nS, nT, eq_self, reduceCtorEq] at hb) <;> (try (exfalso; (omega); done)))
    | refine seq_go ?_
    | ((first | apply call_detx [some 0, some 1] (hsy) ); (focus ((iterate 2 (all_goals (repeat' (first | exact subL_nil | exact trivial | (intro Q h; refine h ?_; clear h Q) | refine And.intro ?_ ?_ | refine subL_cons ?_ ?_ | refine sub_agg ?_ | exact sub_sl rfl rfl rfl | exact sub_refl_val _ _ | exact row_same rfl rfl rfl )))))); (any_goals (first | (apply nodup_mk; rfl) )))
    | ((first | apply call1 (hcy) ); (focus (iterate 2 (all_goals (repeat' (first | exact subL_nil | exact trivial | (intro Q h; refine h ?_; clear h Q) | refine And.intro ?_ ?_ | refine subL_cons ?_ ?_ | exact sub_sl rfl rfl rfl | exact sub_refl_val _ _ | exact row_ren rfl rfl rfl ))))); (try (any_goals fail)))
    | (apply ret_mk [some 0, some 1, none]; (focus (iterate 2 (all_goals (repeat' (first | exact subL_nil | exact trivial | (intro Q h; refine h ?_; clear h Q) | refine And.intro ?_ ?_ | refine subL_cons ?_ ?_ | refine sub_tup ?_ | exact sub_sbl rfl | exact row_same rfl rfl rfl | exact sub_nil rfl | ((first | refine virt_mk ?_ ); first | with_reducible rfl | omega | ((try simp only [wS]); omega) | rfl) ))))); (any_goals (apply okIx_mk; rfl)))
    ))
  obtain ⟨_, ⟨v, k2⟩, _⟩ := cyK_ok (by omega) (sysA_ok h0) hq
  have hm := Ch_mem k2
  rw [show cyK (sysA l c) (l.length + 1) = blK l c from rfl] at hm
  have hKl : (blK l c).length ≤ 320 := by
    have := cyF_len (sysA l c) (pth (sysA l c) (l.length + 1)) (l.length + 1) 0
    have := (sys_zero h0).2.1
    unfold blK cyK
    rw [if_pos hq]; omega
  have hok := sysA_ok h0
  have h159 := (sys_zero h0).2.1
  rw [hq] at hcy hO
  have hA : blA l c = cmp (srt (blE (sysA l c) (blK l c) (blK l c).length)) := by unfold blA; rw [hO]; rfl
  rw [hA, hO]
  clear k2
  generalize blK l c = K at *
  have hEl := fun x => blE_len (sysA l c) K x
  have hE0 : blE (sysA l c) K 0 = [] := rfl
  have hEs : ∀ x, blE (sysA l c) K (x + 1) = inE (blE (sysA l c) K x) ((sysA l c).getD (K.getD x 0).toNat cn0).a ((sysA l c).getD (K.getD x 0).toNat cn0).b 2 := fun _ => rfl
  generalize sysA l c = A at *
  have hs1 := sort_ok (blE A K K.length) 3 none (by have := hEl K.length; omega)
  have hs2 := compact_ok (srt (blE A K K.length)) 3 (by rw [srt_len]; have := hEl K.length; omega)
  rw [srt_len] at hs2
  generalize hB : blE A K = B at *
  refine Runs.mk tabOK Try.call18 Try.func18 rfl Try.ntmps18 Try.results18 rfl ?_
  (repeat' (first
    | (intro Q h; refine h ?_; clear h Q)
    | (refine bcase_mk (fun hb => ?_) (fun hb => ?_) <;> (try simp only [nS, nT, eq_self, reduceCtorEq] at hb) <;> (try (exfalso; (omega); done)))
    | refine seq_go ?_
    | ((first | apply call_detx [some 0, some 1] (hsy) ); (focus ((iterate 2 (all_goals (repeat' (first | exact subL_nil | exact trivial | (intro Q h; refine h ?_; clear h Q) | refine And.intro ?_ ?_ | refine subL_cons ?_ ?_ | refine sub_agg ?_ | exact sub_sl rfl rfl rfl | exact sub_refl_val _ _ | exact row_same rfl rfl rfl )))))); (any_goals (first | (apply nodup_mk; rfl) )))
    | ((first | apply call1 (hcy) ); (focus (iterate 2 (all_goals (repeat' (first | exact subL_nil | exact trivial | (intro Q h; refine h ?_; clear h Q) | refine And.intro ?_ ?_ | refine subL_cons ?_ ?_ | exact sub_sl rfl rfl rfl | exact sub_refl_val _ _ | exact row_ren rfl rfl rfl ))))); (try (any_goals fail)))
    ))
  refine loop_inv (σ := Nat) (fun x => x ≤ K.length) (fun x => ⟨[(7, .sl 2 3 0 A.length none), (11, .sl 4 1 0 (B x).length none), (33, .sl 3 1 0 K.length none), (34, .val (.int .i64 K.length)), (35, .val (.int .i64 x))], [gL l, gT c, cB true A, iB true K, iB true (B x)]⟩) (fun x => K.length - x) (0) ?_ ?_ ?_
  · omega
  · rw [hE0]
    (apply le_mk [some 0, some 1, some 3, some 4, none]; (focus (iterate 2 (all_goals (repeat' (first | exact trivial | (intro Q h; refine h ?_; clear h Q) | refine And.intro ?_ ?_ | exact sub_sl rfl rfl rfl | exact sub_refl_val _ _ | exact row_same rfl rfl rfl | exact row_ren rfl rfl rfl | exact sub_nil rfl | ((first | refine virt_mk ?_ ); first | with_reducible rfl | omega | ((try simp only [wS]); omega) | rfl) ))))); (any_goals (apply okIx_mk; rfl)))
  rintro r hr
  have hBr := hEl r
  by_cases hrK : r < K.length
  · have hz : 0 + Int.toNat (r : Int) = r := by omega
    have hKr := hm _ (getD_mem K r 0 hrK)
    have hd := hok _ (getD_mem A _ cn0 hKr.2)
    have hs := hEs r
    rw [← hz] at hKr
    have hs' : B (r + 1) = inE (B r) (A.getD (0 + (K.getD (0 + Int.toNat (r : Int)) 0).toNat) cn0).a (A.getD (0 + (K.getD (0 + Int.toNat (r : Int)) 0).toNat) cn0).b 2 := by rw [hz, Nat.zero_add]; exact hs
    have hd' : cnOK (l.length + 1) (A.getD (0 + (K.getD (0 + Int.toNat (r : Int)) 0).toNat) cn0) := by rw [hz, Nat.zero_add]; exact hd
    obtain ⟨⟨a0, a1⟩, ⟨b0, b1⟩, _⟩ := hd'
    generalize B r = E at *
    (repeat' (first
    | (intro Q h; refine h ?_; clear h Q)
    | (refine bcase_mk (fun hb => ?_) (fun hb => ?_) <;> (try simp only [nS, nT, eq_self, reduceCtorEq] at hb) <;> (try (exfalso; (omega); done)))
    | refine draw_mk (by decide +kernel) ?_
    | refine seq_go ?_
    | refine And.intro (by first | omega | ((try simp only [wS]); omega) | rfl | decide) ?_
    ))
    generalize (A.getD (0 + (K.getD (0 + Int.toNat (r : Int)) 0).toNat) cn0).a = a at *
    generalize (A.getD (0 + (K.getD (0 + Int.toNat (r : Int)) 0).toNat) cn0).b = b at *
    refine loop_inv (σ := Nat) (fun x => x ≤ 2) (fun x => ⟨[(7, .sl 2 3 0 A.length none), (11, .sl 4 1 0 (inE E a b x).length none), (33, .sl 3 1 0 K.length none), (34, .val (.int .i64 K.length)), (35, .val (.int .i64 r)), (49, .agg [.val (.int .i64 a), .val (.int .i64 b)]), (50, .val (.int .i64 x))], [gL l, gT c, cB true A, iB true K, iB true (inE E a b x)]⟩) (fun x => 2 - x) (0) ?_ ?_ ?_
    · omega
    · rw [show inE E a b 0 = E from rfl]
      (apply le_mk [some 0, some 1, some 2, some 3, some 4]; (focus (iterate 2 (all_goals (repeat' (first | exact subL_nil | exact trivial | (intro Q h; refine h ?_; clear h Q) | refine And.intro ?_ ?_ | refine subL_cons ?_ ?_ | refine sub_agg ?_ | exact sub_sl rfl rfl rfl | exact sub_refl_val _ _ | exact row_same rfl rfl rfl ))))); (any_goals (apply okIx_mk; rfl)))
    rintro y hy
    have hE2 : (inE E a b y).length ≤ E.length + 2 := by
      have := vE_len a
      have := vE_len b
      rcases y with _ | _ | y <;> simp only [inE, List.length_append] <;> omega
    obtain rfl | rfl | rfl : y = 0 ∨ y = 1 ∨ y = 2 := by omega
    · have h1 : inE E a b (0 + 1) = E ++ vE a := rfl
      rw [show inE E a b 0 = E from rfl]
      (repeat' (first
    | (intro Q h; refine h ?_; clear h Q)
    | (refine bcase_mk (fun hb => ?_) (fun hb => ?_) <;> (try simp only [nS, nT, eq_self, reduceCtorEq] at hb) <;> (try (exfalso; (omega); done)))
    | refine seq_go ?_
    | refine And.intro (by first | omega | ((try simp only [wS]); omega) | rfl | decide) ?_
    | (apply next_sub (Subtype.mk (0 + 1) (by first | omega | (simp only; omega))); (focus (rw [h1, vE_pos (by assumption)]; apply le_mk [some 0, some 1, some 2, some 3, some _]; (focus (iterate 2 (all_goals (repeat' (first | exact subL_nil | exact trivial | (intro Q h; refine h ?_; clear h Q) | refine And.intro ?_ ?_ | refine subL_cons ?_ ?_ | refine sub_agg ?_ | exact sub_sl rfl rfl rfl | exact sub_refl_val _ _ | exact row_same rfl rfl rfl | ((first | refine sub_sl rfl rfl ?_ | show (_ : Nat) = _); first | with_reducible rfl | omega | ((try simp only [wS]); omega) | rfl) | apply row_app1 | refine cells_succ ?_ ?_ | exact cell0 | refine sub_sl rfl rfl ?_ ))))); (any_goals (apply okIx_mk; rfl)))); (all_goals (try (first | (simp only; omega)))))
    | (apply next_sub (Subtype.mk (0 + 1) (by first | omega | (simp only; omega))); (focus (rw [h1, vE_neg (by omega), List.append_nil]; apply le_mk [some 0, some 1, some 2, some 3, some _]; (focus (iterate 2 (all_goals (repeat' (first | exact subL_nil | exact trivial | (intro Q h; refine h ?_; clear h Q) | refine And.intro ?_ ?_ | refine subL_cons ?_ ?_ | refine sub_agg ?_ | exact sub_sl rfl rfl rfl | exact sub_refl_val _ _ | exact row_same rfl rfl rfl ))))); (any_goals (apply okIx_mk; rfl)))); (all_goals (try (first | (simp only; omega)))))
    ))
      all_goals first
        | (simp; done)
        | (rw [cwrap (by omega) (by omega)]; done)
        | fail
    · have h1 : inE E a b (1 + 1) = E ++ vE a ++ vE b := rfl
      rw [show inE E a b 1 = E ++ vE a from rfl] at hE2 ⊢
      generalize E ++ vE a = F at *
      (repeat' (first
    | (intro Q h; refine h ?_; clear h Q)
    | (refine bcase_mk (fun hb => ?_) (fun hb => ?_) <;> (try simp only [nS, nT, eq_self, reduceCtorEq] at hb) <;> (try (exfalso; (omega); done)))
    | refine seq_go ?_
    | refine And.intro (by first | omega | ((try simp only [wS]); omega) | rfl | decide) ?_
    | (apply next_sub (Subtype.mk (1 + 1) (by first | omega | (simp only; omega))); (focus (rw [h1, vE_pos (by assumption)]; apply le_mk [some 0, some 1, some 2, some 3, some _]; (focus (iterate 2 (all_goals (repeat' (first | exact subL_nil | exact trivial | (intro Q h; refine h ?_; clear h Q) | refine And.intro ?_ ?_ | refine subL_cons ?_ ?_ | refine sub_agg ?_ | exact sub_sl rfl rfl rfl | exact sub_refl_val _ _ | exact row_same rfl rfl rfl | ((first | refine sub_sl rfl rfl ?_ | show (_ : Nat) = _); first | with_reducible rfl | omega | ((try simp only [wS]); omega) | rfl) | apply row_app1 | refine cells_succ ?_ ?_ | exact cell0 | refine sub_sl rfl rfl ?_ ))))); (any_goals (apply okIx_mk; rfl)))); (all_goals (try (first | (simp only; omega)))))
    | (apply next_sub (Subtype.mk (1 + 1) (by first | omega | (simp only; omega))); (focus (rw [h1, vE_neg (by omega), List.append_nil]; apply le_mk [some 0, some 1, some 2, some 3, some _]; (focus (iterate 2 (all_goals (repeat' (first | exact subL_nil | exact trivial | (intro Q h; refine h ?_; clear h Q) | refine And.intro ?_ ?_ | refine subL_cons ?_ ?_ | refine sub_agg ?_ | exact sub_sl rfl rfl rfl | exact sub_refl_val _ _ | exact row_same rfl rfl rfl ))))); (any_goals (apply okIx_mk; rfl)))); (all_goals (try (first | (simp only; omega)))))
    ))
      all_goals first
        | (simp; done)
        | (rw [cwrap (by omega) (by omega)]; done)
        | fail
    · generalize inE E a b 2 = F at *
      (repeat' (first
    | (intro Q h; refine h ?_; clear h Q)
    | (refine bcase_mk (fun hb => ?_) (fun hb => ?_) <;> (try simp only [nS, nT, eq_self, reduceCtorEq] at hb) <;> (try (exfalso; (omega); done)))
    | (apply next_sub (Subtype.mk (r + 1) (by first | omega | (simp only; omega))); (focus (rw [hs']; apply le_mk [some 0, some 1, some 2, some 3, some 4]; (focus (iterate 2 (all_goals (repeat' (first | exact trivial | (intro Q h; refine h ?_; clear h Q) | refine And.intro ?_ ?_ | exact sub_sl rfl rfl rfl | exact sub_refl_val _ _ | exact row_same rfl rfl rfl | ((first | refine sub_int ?_ ); first | with_reducible rfl | omega | ((try simp only [wS]); omega) | rfl) ))))); (any_goals (apply okIx_mk; rfl)))); (all_goals (try (first | (simp only; omega)))))
    ))
  · have hrr : K.length = r := by omega
    subst hrr
    (repeat' (first
    | (intro Q h; refine h ?_; clear h Q)
    | (refine bcase_mk (fun hb => ?_) (fun hb => ?_) <;> (try simp only [nS, nT, eq_self, reduceCtorEq] at hb) <;> (try (exfalso; (omega); done)))
    | ((first | apply call1 (hs1) ); (focus (iterate 2 (all_goals (repeat' (first | exact subL_nil | exact trivial | (intro Q h; refine h ?_; clear h Q) | refine And.intro ?_ ?_ | refine subL_cons ?_ ?_ | exact sub_sl rfl rfl rfl | exact row_same rfl rfl rfl ))))); (try (any_goals fail)))
    | ((first | apply call1 (hs2) ); (focus (iterate 2 (all_goals (repeat' (first | exact subL_nil | exact trivial | (intro Q h; refine h ?_; clear h Q) | refine And.intro ?_ ?_ | refine subL_cons ?_ ?_ | exact sub_sl rfl rfl rfl | exact row_ren rfl rfl rfl ))))); (try (any_goals fail)))
    ))
    apply ret_mk [some 0, some 1, some 4]
    rotate_left
    · rfl
    refine And.intro ?_ (And.intro ?_ (And.intro ?_ (And.intro ?_ trivial)))
    · (repeat' (first | exact subL_nil | refine subL_cons ?_ ?_ | refine sub_tup ?_ | exact sub_sl rfl rfl rfl | exact sub_sbl rfl ))
    · (intro Q h; refine h ?_; clear h Q)
      exact row_same rfl rfl rfl
    · (intro Q h; refine h ?_; clear h Q)
      exact row_same rfl rfl rfl
    · (intro Q h; refine h ?_; clear h Q)
      refine row_prer rfl ⟨_, rfl⟩ rfl ?_
      have := cmp_len (srt (B K.length))
      rwa [srt_len] at this
end Go.Vx.L53

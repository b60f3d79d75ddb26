/- Lemmas of a small executor for the model, and contracts of functions, used for the law that this claim proves. No condition. -/
import Derived.Test.YtblcjjlggfpehaaBC27
import Derived.Test.YtblcjjlggfpehaaBD5
set_option linter.unusedSimpArgs false
set_option linter.unusedVariables false
set_option maxRecDepth 100000
namespace Go.Vx.L53
open Go Go.Proofs
theorem min_le_x (x n : Nat) : min x n ≤ x := by omega
def lesT (t : List Int) (s : Int) (x : Nat) : List Int := (t.take x).map (fun t => mxI 0 (t - s)) ++ t.drop x
theorem lesT_len (t : List Int) (s : Int) (x : Nat) (h : x ≤ t.length) : (lesT t s x).length = t.length := by simp [lesT]; omega
theorem lesT_get (t : List Int) (s : Int) {x : Nat} (h : x < t.length) : (lesT t s x).getD x 0 = t.getD x 0 := by
  unfold lesT
  rw [List.getD_eq_getElem?_getD, List.getElem?_append_right (by rw [List.length_map, List.length_take]; omega), List.length_map, List.length_take, Nat.min_eq_left (by omega), Nat.sub_self, List.getElem?_drop, ← List.getD_eq_getElem?_getD]; rfl
theorem lesT_set (t : List Int) (s : Int) {x : Nat} (h : x < t.length) : lesT t s (x + 1) = (lesT t s x).set x (mxI 0 ((lesT t s x).getD x 0 - s)) := by
  rw [lesT_get t s h]
  unfold lesT
  rw [List.set_append_right _ _ (by rw [List.length_map, List.length_take]; omega), List.length_map, List.length_take, Nat.min_eq_left (by omega), Nat.sub_self, drop_cons t x 0 h, List.set_cons_zero, take_snoc t x 0 h, List.map_append, List.append_assoc]; rfl
set_option maxHeartbeats 4000000 in
theorem offsetsMore (l : List En) (cap : Option Nat) (hl : l.length ≤ maxLen) (c : Cf) (cap2 : Option Nat) (hc : c.tol.length ≤ maxLen) (s : Int) (hs : 0 ≤ s ∧ s ≤ 255) :
    Runs Try.prog 5 [aL l cap, aC c 1 cap2, .val (.int .u8 s)] [gL l, gT c] (Det (.sb true) [gL l, gT c]) := by
  have hmx : maxLen = 9223372036854775807 := by decide
  have hsh := short_ok l cap c cap2 hl hc
  by_cases h : (l.length ≤ 200 ∧ c.tol.length ≤ 100) ∧ l.length ≠ 0
  rotate_left
  · have h' : ∀ q, decide (l.length ≤ 200 ∧ c.tol.length ≤ 100) = q → q = true → l.length = 0 := fun q hq hq2 => by
      rw [hq2] at hq
      exact Decidable.not_not.1 fun h3 => h ⟨of_decide_eq_true hq, h3⟩
    cases hq : decide (l.length ≤ 200 ∧ c.tol.length ≤ 100)
    · rw [hq] at hsh
      refine Runs.mk tabOK Try.call5 Try.func5 rfl Try.ntmps5 Try.results5 rfl ?_
      (repeat' (first
    | (intro Q h; refine h ?_; clear h Q)
    | (refine bcase_mk (fun hb => ?_) (fun hb => ?_) <;> (try simp only [nS, nT, eq_self, reduceCtorEq] at hb) <;> (try (exfalso; (omega); done)))
    | refine seq_go ?_
    | ((first | apply call_detx [some 0, some 1] (hsh) ); (focus ((iterate 2 (all_goals (repeat' (first | exact row_same rfl rfl rfl | exact subL_nil | exact trivial | (intro Q h; refine h ?_; clear h Q) | refine And.intro ?_ ?_ | refine subL_cons ?_ ?_ | refine sub_agg ?_ | exact sub_sl rfl rfl rfl | exact sub_refl_val _ _ )))))); (any_goals (first | (apply nodup_mk; rfl) )))
    | ((first | apply call0 (awake_ok) ); (focus (iterate 2 (all_goals (repeat' (first | exact subL_nil ))))))
    | (apply ret_mk [some 0, some 1]; (focus (iterate 2 (all_goals (repeat' (first | exact row_same rfl rfl rfl | exact trivial | (intro Q h; refine h ?_; clear h Q) | refine And.intro ?_ ?_ | exact sub_sb rfl ))))); (any_goals (apply okIx_mk; rfl)))
    ))
    · rw [hq] at hsh
      have h0 := h' true hq rfl
      refine Runs.mk tabOK Try.call5 Try.func5 rfl Try.ntmps5 Try.results5 rfl ?_
      (repeat' (first
    | (intro Q h; refine h ?_; clear h Q)
    | (refine bcase_mk (fun hb => ?_) (fun hb => ?_) <;> (try simp only [nS, nT, eq_self, reduceCtorEq] at hb) <;> (try (exfalso; (omega); done)))
    | refine seq_go ?_
    | ((first | apply call_detx [some 0, some 1] (hsh) ); (focus ((iterate 2 (all_goals (repeat' (first | exact row_same rfl rfl rfl | exact subL_nil | exact trivial | (intro Q h; refine h ?_; clear h Q) | refine And.intro ?_ ?_ | refine subL_cons ?_ ?_ | refine sub_agg ?_ | exact sub_sl rfl rfl rfl | exact sub_refl_val _ _ )))))); (any_goals (first | (apply nodup_mk; rfl) )))
    | ((first | apply call0 (awake_ok) ); (focus (iterate 2 (all_goals (repeat' (first | exact subL_nil ))))))
    | (apply ret_mk [some 0, some 1]; (focus (iterate 2 (all_goals (repeat' (first | exact row_same rfl rfl rfl | exact trivial | (intro Q h; refine h ?_; clear h Q) | refine And.intro ?_ ?_ | exact sub_sb rfl ))))); (any_goals (apply okIx_mk; rfl)))
    ))
  obtain ⟨hss, hl0⟩ := h
  rw [decide_eq_true hss] at hsh
  have h1 := offsets_ok l cap c cap2 hl hc
  by_cases h0 : ofE l c = 0
  rotate_left
  · have hA : ofA l c = [] := by unfold ofA; rw [if_neg h0]
    rw [hA] at h1
    generalize ofE l c = E at *
    refine Runs.mk tabOK Try.call5 Try.func5 rfl Try.ntmps5 Try.results5 rfl ?_
    (repeat' (first
    | (intro Q h; refine h ?_; clear h Q)
    | (refine bcase_mk (fun hb => ?_) (fun hb => ?_) <;> (try simp only [nS, nT, eq_self, reduceCtorEq] at hb) <;> (try (exfalso; (omega); done)))
    | refine seq_go ?_
    | ((first | apply call_detx [some 0, some 1] (hsh) ); (focus ((iterate 2 (all_goals (repeat' (first | exact row_same rfl rfl rfl | exact subL_nil | exact trivial | (intro Q h; refine h ?_; clear h Q) | refine And.intro ?_ ?_ | refine subL_cons ?_ ?_ | refine sub_agg ?_ | exact sub_sl rfl rfl rfl | exact sub_refl_val _ _ )))))); (any_goals (first | (apply nodup_mk; rfl) )))
    | ((first | apply call_detx [some 0, some 1] (h1) ); (focus ((iterate 2 (all_goals (repeat' (first | exact row_same rfl rfl rfl | exact subL_nil | exact trivial | (intro Q h; refine h ?_; clear h Q) | refine And.intro ?_ ?_ | refine subL_cons ?_ ?_ | refine sub_agg ?_ | exact sub_sl rfl rfl rfl | exact sub_refl_val _ _ )))))); (any_goals (first | (apply nodup_mk; rfl) )))
    | ((first | apply call0 (awake_ok) ); (focus ((iterate 2 (all_goals (repeat' (first | exact subL_nil )))); done)))
    | (apply ret_mk [some 0, some 1]; (focus (iterate 2 (all_goals (repeat' (first | exact row_same rfl rfl rfl | exact trivial | (intro Q h; refine h ?_; clear h Q) | refine And.intro ?_ ?_ | exact sub_sb rfl ))))); (any_goals (apply okIx_mk; rfl)))
    ))
  have hfl := ofA_length h0
  have hcf := (sys_zero (of_sys h0).1).2.2.1
  obtain ⟨⟨r1, r2⟩, r3, r4, ⟨r5, r6⟩, r7⟩ := conf_rg hcf
  have hl159 := (sys_zero (of_sys h0).1).2.1
  obtain ⟨p1, p2⟩ := more_take h0 (l.length - 1) (by omega)
  have hpl := ofA_length p1
  have htl : (l.take (l.length - 1)).length = l.length - 1 := by rw [List.length_take]; omega
  rw [htl] at hpl
  have h2 := offsets_ok (l.take (l.length - 1)) (cap.map fun x => x - Int.toNat 0) c cap2 (by omega) hc
  rw [p1] at h2
  have hless := more_less h0 hs.1
  have h3 := offsets_ok l cap (confD c s) none hl (by simp only [confD, List.length_map]; exact hc)
  rw [h0] at h1
  generalize ofA (l.take (l.length - 1)) c = P at *
  generalize ofA l c = F at *
  refine Runs.mk tabOK Try.call5 Try.func5 rfl Try.ntmps5 Try.results5 rfl ?_
  have hcmp : ∀ x, x < l.length - 1 → (P.getD (0 + Int.toNat x) iv0).lo ≤ (F.getD (0 + Int.toNat x) iv0).lo ∧ (F.getD (0 + Int.toNat x) iv0).hi ≤ (P.getD (0 + Int.toNat x) iv0).hi := fun x hx => by
    rw [Nat.zero_add, Int.toNat_natCast]; exact p2 x hx
  have hw1 : IntKind.i64.wrap ((l.length : Int) - 1) = (l.length : Int) - 1 := cwrap (by omega) (by omega)
  (repeat' (first
    | (intro Q h; refine h ?_; clear h Q)
    | (refine bcase_mk (fun hb => ?_) (fun hb => ?_) <;> (try simp only [nS, nT, eq_self, reduceCtorEq] at hb) <;> (try (exfalso; (omega); done)))
    | refine draw_mk (by decide +kernel) ?_
    | refine seq_go ?_
    | refine And.intro (by first | omega | ((try simp only [wS]); omega) | rfl | decide) ?_
    | ((first | apply call_detx [some 0, some 1] (hsh) ); (focus ((iterate 2 (all_goals (repeat' (first | exact row_same rfl rfl rfl | exact subL_nil | exact trivial | (intro Q h; refine h ?_; clear h Q) | refine And.intro ?_ ?_ | refine subL_cons ?_ ?_ | refine sub_agg ?_ | exact sub_sl rfl rfl rfl | exact sub_refl_val _ _ )))); done)); (any_goals (first | (apply nodup_mk; rfl) )))
    | ((first | apply call_detx [some 0, some 1] (h1) | apply calld_detx [some 0, some 1] (h1)); (focus ((iterate 2 (all_goals (repeat' (first | exact row_same rfl rfl rfl | exact subL_nil | exact trivial | (intro Q h; refine h ?_; clear h Q) | refine And.intro ?_ ?_ | refine subL_cons ?_ ?_ | refine sub_agg ?_ | exact sub_sl rfl rfl rfl | exact sub_refl_val _ _ )))); done)); (any_goals (first | (apply nodup_mk; rfl) )))
    | ((first | apply calld_detx [some 0, some 1] (h2)); (focus ((iterate 2 (all_goals (repeat' (first | exact row_same rfl rfl rfl | exact row_pre rfl ⟨_, (List.take_append_drop _ _).symm⟩ rfl (by rw [List.length_take]; omega) | exact subL_nil | exact trivial | (intro Q h; refine h ?_; clear h Q) | refine And.intro ?_ ?_ | refine subL_cons ?_ ?_ | refine sub_agg ?_ | exact sub_sl rfl rfl rfl | exact sub_refl_val _ _ | ((first | refine sub_sl rfl rfl ?_ ); first | with_reducible rfl | omega | ((try simp only [wS]); omega) | rfl) )))); done)); (any_goals (first | (apply nodup_mk2; rfl) )))
    ))
  refine loop_inv (σ := Nat) (fun x => x ≤ l.length - 1) (fun x => ⟨[(0, aL l cap), (2, .val (.int .u8 s)), (4, .ptr 2 5 0 0), (7, .sl 3 2 0 l.length none), (9, .sl 4 2 0 (l.length - 1) none), (66, .val (.int .i64 ((l.length : Int) - 1))), (67, .val (.int .i64 x))], [gL l, gT c, vC c 1 cap2, vB true F, vB true P]⟩) (fun x => l.length - 1 - x) (0) ?_ ?_ ?_
  · omega
  · (apply le_mk [some 0, some 1, some 2, some 3, some 4]; (focus (iterate 2 (all_goals (repeat' (first | exact row_same rfl rfl rfl | exact subL_nil | exact trivial | (intro Q h; refine h ?_; clear h Q) | refine And.intro ?_ ?_ | refine subL_cons ?_ ?_ | refine var_mk ?_ | exact sub_ptr rfl rfl | exact sub_sl rfl rfl rfl | exact sub_refl_val _ _ | exact row_ren rfl rfl rfl | ((first | refine sub_int ?_ | refine sub_sl rfl rfl ?_ ); first | with_reducible rfl | omega | ((try simp only [wS]); omega) | rfl) ))))); (any_goals (apply okIx_mk; rfl)))
  rintro x hx
  by_cases hxl : x < l.length - 1
  · have hcmp := hcmp x hxl
    (repeat' (first
    | (intro Q h; refine h ?_; clear h Q)
    | (refine bcase_mk (fun hb => ?_) (fun hb => ?_) <;> (try simp only [nS, nT, eq_self, reduceCtorEq] at hb) <;> (try (exfalso; (omega); done)))
    | refine draw_mk (by decide +kernel) ?_
    | refine seq_go ?_
    | refine And.intro (by first | omega | ((try simp only [wS]); omega) | rfl | decide) ?_
    | (apply next_sub (Subtype.mk (x + 1) _); (focus (apply le_mk [some 0, some 1, some 2, some 3, some 4]; (focus (iterate 2 (all_goals (repeat' (first | exact row_same rfl rfl rfl | exact subL_nil | exact trivial | (intro Q h; refine h ?_; clear h Q) | refine And.intro ?_ ?_ | refine subL_cons ?_ ?_ | refine var_mk ?_ | exact sub_ptr rfl rfl | exact sub_sl rfl rfl rfl | exact sub_refl_val _ _ | ((first | refine sub_int ?_ ); first | with_reducible rfl | omega | ((try simp only [wS]); omega) | rfl) ))))); (any_goals (apply okIx_mk; rfl)))); (all_goals (try (first | omega | (simp only; omega)))))
    ))
  have hxx : x = l.length - 1 := by omega
  subst hxx
  have e0 : lesT c.tol s 0 = c.tol := by simp [lesT]
  have eE : lesT c.tol s c.tol.length = (confD c s).tol := by simp [lesT, confD]
  have eL := lesT_len c.tol s
  have eS := fun x hx => lesT_set c.tol s (x := x) hx
  have eG := fun x hx => lesT_get c.tol s (x := x) hx
  have m1 : mxI 0 (c.err - s) = (confD c s).err := rfl
  have m2 : mxI c.mn (c.mx - s) = (confD c s).mx := rfl
  have hw2 : IntKind.i64.wrap s = s := cwrap (by omega) (by omega)
  have hw3 : IntKind.i64.wrap (c.err - IntKind.i64.wrap s) = c.err - s := by rw [hw2]; exact cwrap (by omega) (by omega)
  have hw4 : IntKind.i64.wrap (c.mx - IntKind.i64.wrap s) = c.mx - s := by rw [hw2]; exact cwrap (by omega) (by omega)
  (repeat' (first
    | (intro Q h; refine h ?_; clear h Q)
    | (refine bcase_mk (fun hb => ?_) (fun hb => ?_) <;> (try simp only [nS, nT, eq_self, reduceCtorEq] at hb) <;> (try (exfalso; (omega); done)))
    | refine seq_go ?_
    | refine And.intro (by first | omega | ((try simp only [wS]); omega) | rfl | decide) ?_
    ))
  refine loop_inv (σ := Nat) (fun x => x ≤ c.tol.length) (fun x => ⟨[(0, aL l cap), (2, .val (.int .u8 s)), (7, .sl 2 2 0 l.length none), (11, .ptr 3 5 0 0), (119, .val (.int .i64 c.tol.length)), (120, .val (.int .i64 x))], [gL l, gT c, vB true F, .var [.val (.int .i64 c.ref), .val (.int .i64 (confD c s).err), .sl 4 1 0 c.tol.length none, .val (.int .i64 c.mn), .val (.int .i64 (confD c s).mx)], iB true (lesT c.tol s x)]⟩) (fun x => c.tol.length - x) (0) ?_ ?_ ?_
  · omega
  · (apply le_mk [some 0, some 1, some 3, some 5, some 7]; (focus (iterate 2 (all_goals (repeat' (first | exact row_same rfl rfl rfl | exact subL_nil | exact trivial | (intro Q h; refine h ?_; clear h Q) | refine And.intro ?_ ?_ | refine subL_cons ?_ ?_ | refine var_mk ?_ | exact sub_ptr rfl rfl | exact sub_sl rfl rfl rfl | exact sub_refl_val _ _ | ((first | refine sub_int ?_ | refine sub_sl rfl rfl ?_ ); first | with_reducible rfl | omega | ((try simp only [wS]); omega) | rfl) | refine sub_int ?_ ))))); (any_goals (apply okIx_mk; rfl)))
    · rw [hw3]; rfl
    · rw [hw4]; rfl
    · rw [e0]; exact row_is (L' := [] ++ (c.tol.drop 0).take c.tol.length) (isrow_app rfl isrow_nil (isrow_shift (by omega))) (by simp) rfl
  clear hxl hx
  rintro x hx
  have eLx := eL x hx
  by_cases hxl : x < c.tol.length
  · have hz : 0 + Int.toNat x = x := by omega
    have eSx := eS x hxl
    have eGx := eG x hxl
    have htx := r4 _ (getD_mem c.tol x 0 hxl)
    rw [← eGx] at htx
    rw [show (lesT c.tol s x).set x (mxI 0 ((lesT c.tol s x).getD x 0 - s)) = (lesT c.tol s x).set (0 + Int.toNat x) (mxI 0 ((lesT c.tol s x).getD (0 + Int.toNat x) 0 - s)) by rw [hz]] at eSx
    rw [show (lesT c.tol s x).getD x 0 = (lesT c.tol s x).getD (0 + Int.toNat x) 0 by rw [hz]] at htx
    generalize lesT c.tol s x = T at *
    have hw5 : IntKind.i64.wrap (T.getD (0 + Int.toNat x) 0 - IntKind.i64.wrap s) = T.getD (0 + Int.toNat x) 0 - s := by rw [hw2]; exact cwrap (by omega) (by omega)
    (repeat' (first
    | (intro Q h; refine h ?_; clear h Q)
    | (refine bcase_mk (fun hb => ?_) (fun hb => ?_) <;> (try simp only [nS, nT, eq_self, reduceCtorEq] at hb) <;> (try (exfalso; (omega); done)))
    | refine draw_mk (by decide +kernel) ?_
    | refine seq_go ?_
    | refine And.intro (by first | omega | ((try simp only [wS]); omega) | rfl | decide) ?_
    | (apply next_sub (Subtype.mk (x + 1) (by first | omega | (simp only; omega))); (focus (rw [eSx]; apply le_mk [some 0, some 1, some 2, some 3, some 4]; (focus (iterate 2 (all_goals (repeat' (first | exact row_same rfl rfl rfl | (refine row_setl rfl (subL_cons (sub_int ?_) subL_nil) ?_ rfl rfl rfl) | exact subL_nil | exact trivial | (intro Q h; refine h ?_; clear h Q) | refine And.intro ?_ ?_ | refine subL_cons ?_ ?_ | refine var_mk ?_ | exact sub_ptr rfl rfl | exact sub_sl rfl rfl rfl | exact sub_refl_val _ _ | ((first | refine sub_int ?_ ); first | with_reducible rfl | omega | ((try simp only [wS]); omega) | rfl) ))))); (any_goals (apply okIx_mk; rfl)))); (all_goals (try (first | omega | (simp only; omega)))))
    ))
    all_goals first
      | (rw [hw5]; rfl)
      | fail
  have hxx : c.tol.length = x := by omega
  subst hxx
  rw [eE] at *
  have hdl : (confD c s).tol.length = c.tol.length := eLx
  have hdr : (confD c s).ref = c.ref := rfl
  have hdm : (confD c s).mn = c.mn := rfl
  rcases hless with hE | ⟨hE, hcmp2⟩
  · have hA : ofA l (confD c s) = [] := by unfold ofA; rw [hE]; rfl
    rw [hE, hA] at h3
    generalize confD c s = D at *
    (repeat' (first
    | (intro Q h; refine h ?_; clear h Q)
    | refine bcase_t (by first | exact beq_self_eq_true _ | decide) ?_
    | (refine bcase_mk (fun hb => ?_) (fun hb => ?_) <;> (try simp only [nS, nT, eq_self, reduceCtorEq] at hb) <;> (try (exfalso; (omega); done)))
    | refine seq_go ?_
    | ((first | apply call_detx [some 0, some 4] (h3) ); (focus ((iterate 2 (all_goals (repeat' (first | exact row_same rfl rfl rfl | exact subL_nil | exact trivial | (intro Q h; refine h ?_; clear h Q) | refine And.intro ?_ ?_ | refine subL_cons ?_ ?_ | refine sub_agg ?_ | exact sub_sl rfl rfl rfl | exact sub_refl_val _ _ | ((first | refine sub_int ?_ | refine sub_sl rfl rfl ?_ ); first | with_reducible rfl | omega | ((try simp only [wS]); omega) | rfl) )))); done)); (any_goals (first | (apply nodup_mk; rfl) )))
    | ((first | apply call0 (awake_ok) ); (focus ((iterate 2 (all_goals (repeat' (first | exact subL_nil )))); done)))
    | (apply ret_mk [some 0, some 1]; (focus (iterate 2 (all_goals (repeat' (first | exact row_same rfl rfl rfl | exact trivial | (intro Q h; refine h ?_; clear h Q) | refine And.intro ?_ ?_ | exact sub_sb rfl ))))); (any_goals (apply okIx_mk; rfl)))
    ))
  · have hGl := ofA_length hE
    rw [hE] at h3
    have hcmp2 : ∀ x, x < l.length → (F.getD (0 + Int.toNat x) iv0).lo ≤ ((ofA l (confD c s)).getD (0 + Int.toNat x) iv0).lo ∧ ((ofA l (confD c s)).getD (0 + Int.toNat x) iv0).hi ≤ (F.getD (0 + Int.toNat x) iv0).hi := fun x hx => by
      rw [Nat.zero_add, Int.toNat_natCast]; exact hcmp2 x hx
    generalize ofA l (confD c s) = G at *
    generalize confD c s = D at *
    (repeat' (first
    | (intro Q h; refine h ?_; clear h Q)
    | refine bcase_f (by decide) ?_
    | (refine bcase_mk (fun hb => ?_) (fun hb => ?_) <;> (try simp only [nS, nT, eq_self, reduceCtorEq] at hb) <;> (try (exfalso; (omega); done)))
    | refine seq_go ?_
    | ((first | apply call_detx [some 0, some 4] (h3) ); (focus ((iterate 2 (all_goals (repeat' (first | exact row_same rfl rfl rfl | exact subL_nil | exact trivial | (intro Q h; refine h ?_; clear h Q) | refine And.intro ?_ ?_ | refine subL_cons ?_ ?_ | refine sub_agg ?_ | exact sub_sl rfl rfl rfl | exact sub_refl_val _ _ | ((first | refine sub_int ?_ | refine sub_sl rfl rfl ?_ ); first | with_reducible rfl | omega | ((try simp only [wS]); omega) | rfl) )))); done)); (any_goals (first | (apply nodup_mk; rfl) )))
    ))
    refine loop_inv (σ := Nat) (fun x => x ≤ l.length) (fun x => ⟨[(7, .sl 2 2 0 l.length none), (13, .sl 3 2 0 l.length none), (156, .val (.int .i64 l.length)), (157, .val (.int .i64 x))], [gL l, gT c, vB true F, vB true G]⟩) (fun x => l.length - x) (0) ?_ ?_ ?_
    · omega
    · (apply le_mk [some 0, some 1, some 2, some 5]; (focus (iterate 2 (all_goals (repeat' (first | exact row_same rfl rfl rfl | exact trivial | (intro Q h; refine h ?_; clear h Q) | refine And.intro ?_ ?_ | exact sub_sl rfl rfl rfl | exact sub_refl_val _ _ | exact row_ren rfl rfl rfl | ((first | refine sub_int ?_ | refine sub_sl rfl rfl ?_ ); first | with_reducible rfl | omega | ((try simp only [wS]); omega) | rfl) ))))); (any_goals (apply okIx_mk; rfl)))
    clear hxl hx
    rintro x hx
    by_cases hxl : x < l.length
    · have hcmp2 := hcmp2 x hxl
      (repeat' (first
    | (intro Q h; refine h ?_; clear h Q)
    | (refine bcase_mk (fun hb => ?_) (fun hb => ?_) <;> (try simp only [nS, nT, eq_self, reduceCtorEq] at hb) <;> (try (exfalso; (omega); done)))
    | refine draw_mk (by decide +kernel) ?_
    | refine seq_go ?_
    | refine And.intro (by first | omega | ((try simp only [wS]); omega) | rfl | decide) ?_
    | (apply next_sub (Subtype.mk (x + 1) _); (focus (apply le_mk [some 0, some 1, some 2, some 3]; (focus (iterate 2 (all_goals (repeat' (first | exact row_same rfl rfl rfl | exact trivial | (intro Q h; refine h ?_; clear h Q) | refine And.intro ?_ ?_ | exact sub_sl rfl rfl rfl | exact sub_refl_val _ _ | ((first | refine sub_int ?_ ); first | with_reducible rfl | omega | ((try simp only [wS]); omega) | rfl) ))))); (any_goals (apply okIx_mk; rfl)))); (all_goals (try (first | omega | (simp only; omega)))))
    ))
    · have hxx : l.length = x := by omega
      subst hxx
      (repeat' (first
    | (intro Q h; refine h ?_; clear h Q)
    | (refine bcase_mk (fun hb => ?_) (fun hb => ?_) <;> (try simp only [nS, nT, eq_self, reduceCtorEq] at hb) <;> (try (exfalso; (omega); done)))
    | ((first | apply call0 (awake_ok) ); (focus (iterate 2 (all_goals (repeat' (first | exact subL_nil ))))))
    | (apply ret_mk [some 0, some 1]; (focus (iterate 2 (all_goals (repeat' (first | exact row_same rfl rfl rfl | exact trivial | (intro Q h; refine h ?_; clear h Q) | refine And.intro ?_ ?_ | exact sub_sb rfl ))))); (any_goals (apply okIx_mk; rfl)))
    ))
end Go.Vx.L53

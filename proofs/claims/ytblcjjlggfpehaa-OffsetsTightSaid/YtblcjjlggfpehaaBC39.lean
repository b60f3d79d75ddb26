/- Lemmas of a small executor for the model, and contracts of functions, used for the law that this claim proves. No condition. -/
import Derived.Test.YtblcjjlggfpehaaBC26
import Derived.Test.YtblcjjlggfpehaaBC35
import Derived.Test.YtblcjjlggfpehaaBC36
set_option linter.unusedSimpArgs false
set_option linter.unusedVariables false
set_option maxRecDepth 100000
namespace Go.Vx.L53
open Go Go.Proofs
/-- The two variables that a witness holds apart. -/
def wiA (i : Int) (hi : Bool) : Int := bif hi then i + 1 else 0
def wiB (i : Int) (hi : Bool) : Int := bif hi then 0 else i + 1
def wiE (l : List En) (c : Cf) (i : Int) (hi : Bool) : Int := if sysE l c ≠ 0 then sysE l c else if ¬ (0 ≤ i ∧ i < l.length) then 3 else tgE (sysN l c) (sysA l c) (wiA i hi) (wiB i hi)
def wiV (X : List Int) (j : Nat) : Int := IntKind.i64.wrap (X.getD (j + 1) 0 - X.getD 0 0)
def wiX (l : List En) (c : Cf) (i : Int) (hi : Bool) : List Int := tgX (sysA l c) (l.length + 1) (wiA i hi).toNat
def wiL (l : List En) (c : Cf) (i : Int) (hi : Bool) : List Int := if wiE l c i hi = 0 then (List.range l.length).map (wiV (wiX l c i hi)) else []
theorem rgP_all (V : Nat → Int) (n : Nat) : rgP V n n = (List.range n).map V := by simp [rgP]
theorem rgP_zero (V : Nat → Int) (n : Nat) : rgP V n 0 = List.replicate n 0 := by simp [rgP]
theorem tgA_len {n : Int} {l : List Cn} {a b : Int} (h : tgE n l a b = 0) : (tgA n l a b).length = n.toNat := by
  have h0 : cchk n l = 0 := by
    unfold tgE at h
    split at h
    · rename_i h1; exact absurd h h1
    · rename_i h1; exact Decidable.not_not.1 h1
  obtain ⟨n, rfl, hm, hl4, hok⟩ := cchk_zero h0
  unfold tgE at h
  rw [if_neg (not_not_intro h0)] at h
  split at h
  · cases h
  rename_i hr
  split at h
  · cases h
  rename_i hcy
  have hr := Decidable.not_not.1 hr
  rw [Int.toNat_natCast] at hcy
  have hs := sys_of hm hok (by simpa using hcy)
  unfold tgA
  rw [if_pos (by unfold tgE; rw [if_neg (not_not_intro h0), if_neg (not_not_intro hr), Int.toNat_natCast, if_neg hcy]; rw [Int.toNat_natCast] at h; exact h), Int.toNat_natCast]
  have := (row_rg hs (show a.toNat < n by omega)).1
  unfold tgX
  rw [tgP_len _ _ _ _ (by omega)]; exact this
set_option maxHeartbeats 2000000 in
theorem witness_ok (l : List En) (cap : Option Nat) (c : Cf) (cap2 : Option Nat) (i : Int) (hi : Bool) (hl : l.length ≤ maxLen) (hc : c.tol.length ≤ maxLen) :
    Runs Try.prog 20 [aL l cap, aC c 1 cap2, .val (.int .i64 i), .sb hi] [gL l, gT c] (Det (.tup [.sl 2 1 0 (wiL l c i hi).length none, .val (.int .i64 (wiE l c i hi))]) [gL l, gT c, iB true (wiL l c i hi)]) := by
  have hmx : maxLen = 9223372036854775807 := by decide
  have hsy := system_ok l cap c cap2 hl hc
  have hsl := sysA_len l c
  have bad : ∀ w, w ≠ 0 → wiE l c i hi = w → wiL l c i hi = [] := fun w h1 h2 => by unfold wiL; rw [h2, if_neg h1]
  by_cases h0 : sysE l c = 0
  rotate_left
  · have hE : wiE l c i hi = sysE l c := by unfold wiE; rw [if_pos h0]
    rw [bad _ h0 hE, hE]
    generalize sysE l c = w at *
    refine Runs.mk tabOK Try.call20 Try.func20 rfl Try.ntmps20 Try.results20 rfl ?_
    (repeat' (first
    | (intro Q h; refine h ?_; clear h Q)
    | (refine bcase_mk (fun hb => ?_) (fun hb => ?_) <;> (try simp only [nS, nT, eq_self, reduceCtorEq] at hb) <;> (try (exfalso; (omega); done)))
    | refine seq_go ?_
    | ((first | apply call_detx [some 0, some 1] (hsy) ); (focus ((iterate 2 (all_goals (repeat' (first | exact subL_nil | exact trivial | (intro Q h; refine h ?_; clear h Q) | refine And.intro ?_ ?_ | refine subL_cons ?_ ?_ | refine sub_agg ?_ | exact sub_sl rfl rfl rfl | exact sub_refl_val _ _ | exact row_same rfl rfl rfl )))))); (any_goals (first | (apply nodup_mk; rfl) )))
    | (apply ret_mk [some 0, some 1, none]; (focus (iterate 2 (all_goals (repeat' (first | exact subL_nil | exact trivial | (intro Q h; refine h ?_; clear h Q) | refine And.intro ?_ ?_ | refine subL_cons ?_ ?_ | refine sub_tup ?_ | exact sub_refl_val _ _ | exact row_same rfl rfl rfl | exact sub_nil rfl | ((first | refine virt_mk ?_ ); first | with_reducible rfl | omega | ((try simp only [wS]); omega) | rfl) ))))); (any_goals (apply okIx_mk; rfl)))
    ))
  rw [h0] at hsy
  by_cases h1 : 0 ≤ i ∧ i < l.length
  rotate_left
  · have hE : wiE l c i hi = 3 := by unfold wiE; rw [if_neg (not_not_intro h0), if_pos h1]
    rw [bad _ (by decide) hE, hE]
    refine Runs.mk tabOK Try.call20 Try.func20 rfl Try.ntmps20 Try.results20 rfl ?_
    (repeat' (first
    | (intro Q h; refine h ?_; clear h Q)
    | (refine bcase_mk (fun hb => ?_) (fun hb => ?_) <;> (try simp only [nS, nT, eq_self, reduceCtorEq] at hb) <;> (try (exfalso; (omega); done)))
    | refine seq_go ?_
    | ((first | apply call_detx [some 0, some 1] (hsy) ); (focus ((iterate 2 (all_goals (repeat' (first | exact subL_nil | exact trivial | (intro Q h; refine h ?_; clear h Q) | refine And.intro ?_ ?_ | refine subL_cons ?_ ?_ | refine sub_agg ?_ | exact sub_sl rfl rfl rfl | exact sub_refl_val _ _ | exact row_same rfl rfl rfl )))))); (any_goals (first | (apply nodup_mk; rfl) )))
    | (apply ret_mk [some 0, some 1, none]; (focus (iterate 2 (all_goals (repeat' (first | exact subL_nil | exact trivial | (intro Q h; refine h ?_; clear h Q) | refine And.intro ?_ ?_ | refine subL_cons ?_ ?_ | refine sub_tup ?_ | exact sub_refl_val _ _ | exact row_same rfl rfl rfl | exact sub_nil rfl | ((first | refine virt_mk ?_ ); first | with_reducible rfl | omega | ((try simp only [wS]); omega) | rfl) ))))); (any_goals (apply okIx_mk; rfl)))
    ))
  have htg := tight_ok (sysN l c) (sysA l c) none (by omega) (wiA i hi) (wiB i hi)
  have hE : wiE l c i hi = tgE (sysN l c) (sysA l c) (wiA i hi) (wiB i hi) := by unfold wiE; rw [if_neg (not_not_intro h0), if_neg (not_not_intro h1)]
  have hN : sysN l c = l.length + 1 := by unfold sysN; rw [if_pos h0]
  obtain ⟨z1, z2, z3, _⟩ := sys_zero h0
  by_cases h2 : tgE (sysN l c) (sysA l c) (wiA i hi) (wiB i hi) = 0
  rotate_left
  · have hA : tgA (sysN l c) (sysA l c) (wiA i hi) (wiB i hi) = [] := by unfold tgA; rw [if_neg h2]
    rw [bad _ h2 hE, hE]
    rw [hA] at htg
    generalize tgE (sysN l c) (sysA l c) (wiA i hi) (wiB i hi) = w at *
    cases hi
    · unfold wiA wiB at htg
      simp only [cond_false] at htg
      refine Runs.mk tabOK Try.call20 Try.func20 rfl Try.ntmps20 Try.results20 rfl ?_
      (repeat' (first
    | (intro Q h; refine h ?_; clear h Q)
    | (with_reducible refine bcase_false ?_)
    | (refine bcase_mk (fun hb => ?_) (fun hb => ?_) <;> (try simp only [nS, nT, eq_self, reduceCtorEq] at hb) <;> (try (exfalso; (omega); done)))
    | refine seq_go ?_
    | ((first | apply call_detx [some 0, some 1] (hsy) ); (focus ((iterate 2 (all_goals (repeat' (first | exact subL_nil | exact trivial | (intro Q h; refine h ?_; clear h Q) | refine And.intro ?_ ?_ | refine subL_cons ?_ ?_ | refine sub_agg ?_ | exact sub_sl rfl rfl rfl | exact sub_refl_val _ _ | exact row_same rfl rfl rfl )))))); (any_goals (first | (apply nodup_mk; rfl) )))
    | ((first | apply call1 (htg) ); (focus (iterate 2 (all_goals (repeat' (first | exact subL_nil | exact trivial | (intro Q h; refine h ?_; clear h Q) | refine And.intro ?_ ?_ | refine subL_cons ?_ ?_ | exact sub_sl rfl rfl rfl | exact sub_refl_val _ _ | exact row_ren rfl rfl rfl | ((first | refine sub_int ?_ ); first | with_reducible rfl | omega | ((try simp only [wS]); omega) | rfl) ))))); (try (any_goals fail)))
    | (apply ret_mk [some 0, some 1, none]; (focus (iterate 2 (all_goals (repeat' (first | exact subL_nil | exact trivial | (intro Q h; refine h ?_; clear h Q) | refine And.intro ?_ ?_ | refine subL_cons ?_ ?_ | refine sub_tup ?_ | exact sub_refl_val _ _ | exact row_same rfl rfl rfl | exact sub_nil rfl | ((first | refine virt_mk ?_ ); first | with_reducible rfl | omega | ((try simp only [wS]); omega) | rfl) ))))); (any_goals (apply okIx_mk; rfl)))
    ))
    · unfold wiA wiB at htg
      simp only [cond_true] at htg
      refine Runs.mk tabOK Try.call20 Try.func20 rfl Try.ntmps20 Try.results20 rfl ?_
      (repeat' (first
    | (intro Q h; refine h ?_; clear h Q)
    | (with_reducible refine bcase_true ?_)
    | (refine bcase_mk (fun hb => ?_) (fun hb => ?_) <;> (try simp only [nS, nT, eq_self, reduceCtorEq] at hb) <;> (try (exfalso; (omega); done)))
    | refine seq_go ?_
    | ((first | apply call_detx [some 0, some 1] (hsy) ); (focus ((iterate 2 (all_goals (repeat' (first | exact subL_nil | exact trivial | (intro Q h; refine h ?_; clear h Q) | refine And.intro ?_ ?_ | refine subL_cons ?_ ?_ | refine sub_agg ?_ | exact sub_sl rfl rfl rfl | exact sub_refl_val _ _ | exact row_same rfl rfl rfl )))))); (any_goals (first | (apply nodup_mk; rfl) )))
    | ((first | apply call1 (htg) ); (focus (iterate 2 (all_goals (repeat' (first | exact subL_nil | exact trivial | (intro Q h; refine h ?_; clear h Q) | refine And.intro ?_ ?_ | refine subL_cons ?_ ?_ | exact sub_sl rfl rfl rfl | exact sub_refl_val _ _ | exact row_ren rfl rfl rfl | ((first | refine sub_int ?_ ); first | with_reducible rfl | omega | ((try simp only [wS]); omega) | rfl) ))))); (try (any_goals fail)))
    | (apply ret_mk [some 0, some 1, none]; (focus (iterate 2 (all_goals (repeat' (first | exact subL_nil | exact trivial | (intro Q h; refine h ?_; clear h Q) | refine And.intro ?_ ?_ | refine subL_cons ?_ ?_ | refine sub_tup ?_ | exact sub_refl_val _ _ | exact row_same rfl rfl rfl | exact sub_nil rfl | ((first | refine virt_mk ?_ ); first | with_reducible rfl | omega | ((try simp only [wS]); omega) | rfl) ))))); (any_goals (apply okIx_mk; rfl)))
    ))
  have hTl := tgA_len h2
  rw [show (sysN l c).toNat = l.length + 1 by rw [hN]; omega] at hTl
  have hTA : tgA (sysN l c) (sysA l c) (wiA i hi) (wiB i hi) = wiX l c i hi := by unfold tgA wiX; rw [if_pos h2, hN, show ((l.length : Int) + 1).toNat = l.length + 1 by omega]
  have hW : wiL l c i hi = rgP (wiV (wiX l c i hi)) l.length l.length := by unfold wiL; rw [if_pos (hE.trans h2), rgP_all]
  rw [hTA] at hTl htg
  rw [h2, hTl] at htg
  rw [hW, hE, h2]
  have hPl := fun x h => rgP_len (wiV (wiX l c i hi)) l.length x h
  have hPs := fun x h => rgP_set (wiV (wiX l c i hi)) l.length (x := x) h
  have hP0 := rgP_zero (wiV (wiX l c i hi)) l.length
  have hV : ∀ j, wiV (wiX l c i hi) j = IntKind.i64.wrap ((wiX l c i hi).getD (j + 1) 0 - (wiX l c i hi).getD 0 0) := fun _ => rfl
  generalize wiX l c i hi = X at *
  generalize wiV X = V at *
  generalize rgP V l.length = T at *
  cases hi
  · unfold wiA wiB at htg
    simp only [cond_false] at htg
    refine Runs.mk tabOK Try.call20 Try.func20 rfl Try.ntmps20 Try.results20 rfl ?_
    (repeat' (first
    | (intro Q h; refine h ?_; clear h Q)
    | (with_reducible refine bcase_false ?_)
    | (refine bcase_mk (fun hb => ?_) (fun hb => ?_) <;> (try simp only [nS, nT, eq_self, reduceCtorEq] at hb) <;> (try (exfalso; (omega); done)))
    | refine seq_go ?_
    | refine And.intro (by first | omega | ((try simp only [wS]); omega) | rfl | decide) ?_
    | ((first | apply call_detx [some 0, some 1] (hsy) ); (focus ((iterate 2 (all_goals (repeat' (first | exact subL_nil | exact trivial | (intro Q h; refine h ?_; clear h Q) | refine And.intro ?_ ?_ | refine subL_cons ?_ ?_ | refine sub_agg ?_ | exact sub_sl rfl rfl rfl | exact sub_refl_val _ _ | exact row_same rfl rfl rfl )))))); (any_goals (first | (apply nodup_mk; rfl) )))
    | ((first | apply call1 (htg) ); (focus (iterate 2 (all_goals (repeat' (first | exact subL_nil | exact trivial | (intro Q h; refine h ?_; clear h Q) | refine And.intro ?_ ?_ | refine subL_cons ?_ ?_ | exact sub_sl rfl rfl rfl | exact sub_refl_val _ _ | exact row_ren rfl rfl rfl | ((first | refine sub_int ?_ ); first | with_reducible rfl | omega | ((try simp only [wS]); omega) | rfl) ))))); (try (any_goals fail)))
    ))
    refine loop_inv (σ := Nat) (fun x => x ≤ l.length) (fun x => ⟨[(15, .sl 2 1 0 (l.length + 1) none), (16, .sl 3 1 0 l.length none), (56, .val (.int .i64 l.length)), (57, .val (.int .i64 x))], [gL l, gT c, iB true X, iB true (T x)]⟩) (fun x => l.length - x) (0) ?_ ?_ ?_
    · omega
    · rw [hP0]
      (apply le_mk [some 0, some 1, some 4, some 5]; (focus (iterate 2 (all_goals (repeat' (first | exact trivial | (intro Q h; refine h ?_; clear h Q) | refine And.intro ?_ ?_ | exact sub_sl rfl rfl rfl | exact sub_refl_val _ _ | exact row_same rfl rfl rfl | exact row_ren rfl rfl rfl ))))); (any_goals (apply okIx_mk; rfl)))
      all_goals first
        | exact row_rep (x := 0) (subL_cons (sub_refl_val _ _) subL_nil) (by simp) (by simp)
        | fail
    rintro x hx
    by_cases hxl : x < l.length
    · have hz : 0 + Int.toNat (x : Int) = x := by omega
      have hp := hPs x hxl
      rw [hV] at hp
      have hw : IntKind.i64.wrap ((x : Int) + 1) = x + 1 := cwrap (by omega) (by omega)
      have hp' : T (x + 1) = (T x).set (0 + Int.toNat (x : Int)) (IntKind.i64.wrap (X.getD (0 + Int.toNat (IntKind.i64.wrap ((x : Int) + 1))) 0 - X.getD 0 0)) := by
        rw [hw, hz, hp, show 0 + Int.toNat ((x : Int) + 1) = x + 1 by omega]
      have hTx := hPl x (by omega)
      generalize T x = U at *
      (repeat' (first
    | (intro Q h; refine h ?_; clear h Q)
    | (refine bcase_mk (fun hb => ?_) (fun hb => ?_) <;> (try simp only [nS, nT, eq_self, reduceCtorEq] at hb) <;> (try (exfalso; (omega); done)))
    | refine draw_mk (by decide +kernel) ?_
    | refine seq_go ?_
    | refine And.intro (by first | omega | ((try simp only [wS]); omega) | rfl | decide) ?_
    | (apply next_sub (Subtype.mk (x + 1) (by first | omega | (simp only; omega))); (focus (rw [hp']; apply le_mk [some 0, some 1, some 2, some 3]; (focus (iterate 2 (all_goals (repeat' (first | (refine row_setl rfl (subL_cons (sub_int ?_) subL_nil) ?_ rfl rfl rfl) | exact trivial | (intro Q h; refine h ?_; clear h Q) | refine And.intro ?_ ?_ | exact sub_sl rfl rfl rfl | exact sub_refl_val _ _ | exact row_same rfl rfl rfl | ((first | refine sub_int ?_ ); first | with_reducible rfl | omega | ((try simp only [wS]); omega) | rfl) ))))); (any_goals (apply okIx_mk; rfl)))); (all_goals (try (first | omega | (simp only; omega)))))
    ))
      all_goals rfl
    · have hxx : l.length = x := by omega
      subst hxx
      have hTx := hPl l.length (by omega)
      (repeat' (first
    | (intro Q h; refine h ?_; clear h Q)
    | (refine bcase_mk (fun hb => ?_) (fun hb => ?_) <;> (try simp only [nS, nT, eq_self, reduceCtorEq] at hb) <;> (try (exfalso; (omega); done)))
    | (apply ret_mk [some 0, some 1, some 3]; (focus (iterate 2 (all_goals (repeat' (first | exact subL_nil | exact trivial | (intro Q h; refine h ?_; clear h Q) | refine And.intro ?_ ?_ | refine subL_cons ?_ ?_ | refine sub_tup ?_ | exact sub_refl_val _ _ | exact row_same rfl rfl rfl | ((first | refine sub_sl rfl rfl ?_ ); first | with_reducible rfl | omega | ((try simp only [wS]); omega) | rfl) ))))); (any_goals (apply okIx_mk; rfl)))
    ))
  · unfold wiA wiB at htg
    simp only [cond_true] at htg
    refine Runs.mk tabOK Try.call20 Try.func20 rfl Try.ntmps20 Try.results20 rfl ?_
    (repeat' (first
    | (intro Q h; refine h ?_; clear h Q)
    | (with_reducible refine bcase_true ?_)
    | (refine bcase_mk (fun hb => ?_) (fun hb => ?_) <;> (try simp only [nS, nT, eq_self, reduceCtorEq] at hb) <;> (try (exfalso; (omega); done)))
    | refine seq_go ?_
    | refine And.intro (by first | omega | ((try simp only [wS]); omega) | rfl | decide) ?_
    | ((first | apply call_detx [some 0, some 1] (hsy) ); (focus ((iterate 2 (all_goals (repeat' (first | exact subL_nil | exact trivial | (intro Q h; refine h ?_; clear h Q) | refine And.intro ?_ ?_ | refine subL_cons ?_ ?_ | refine sub_agg ?_ | exact sub_sl rfl rfl rfl | exact sub_refl_val _ _ | exact row_same rfl rfl rfl )))))); (any_goals (first | (apply nodup_mk; rfl) )))
    | ((first | apply call1 (htg) ); (focus (iterate 2 (all_goals (repeat' (first | exact subL_nil | exact trivial | (intro Q h; refine h ?_; clear h Q) | refine And.intro ?_ ?_ | refine subL_cons ?_ ?_ | exact sub_sl rfl rfl rfl | exact sub_refl_val _ _ | exact row_ren rfl rfl rfl | ((first | refine sub_int ?_ ); first | with_reducible rfl | omega | ((try simp only [wS]); omega) | rfl) ))))); (try (any_goals fail)))
    ))
    refine loop_inv (σ := Nat) (fun x => x ≤ l.length) (fun x => ⟨[(15, .sl 2 1 0 (l.length + 1) none), (16, .sl 3 1 0 l.length none), (56, .val (.int .i64 l.length)), (57, .val (.int .i64 x))], [gL l, gT c, iB true X, iB true (T x)]⟩) (fun x => l.length - x) (0) ?_ ?_ ?_
    · omega
    · rw [hP0]
      (apply le_mk [some 0, some 1, some 4, some 5]; (focus (iterate 2 (all_goals (repeat' (first | exact trivial | (intro Q h; refine h ?_; clear h Q) | refine And.intro ?_ ?_ | exact sub_sl rfl rfl rfl | exact sub_refl_val _ _ | exact row_same rfl rfl rfl | exact row_ren rfl rfl rfl ))))); (any_goals (apply okIx_mk; rfl)))
      all_goals first
        | exact row_rep (x := 0) (subL_cons (sub_refl_val _ _) subL_nil) (by simp) (by simp)
        | fail
    rintro x hx
    by_cases hxl : x < l.length
    · have hz : 0 + Int.toNat (x : Int) = x := by omega
      have hp := hPs x hxl
      rw [hV] at hp
      have hw : IntKind.i64.wrap ((x : Int) + 1) = x + 1 := cwrap (by omega) (by omega)
      have hp' : T (x + 1) = (T x).set (0 + Int.toNat (x : Int)) (IntKind.i64.wrap (X.getD (0 + Int.toNat (IntKind.i64.wrap ((x : Int) + 1))) 0 - X.getD 0 0)) := by
        rw [hw, hz, hp, show 0 + Int.toNat ((x : Int) + 1) = x + 1 by omega]
      have hTx := hPl x (by omega)
      generalize T x = U at *
      (repeat' (first
    | (intro Q h; refine h ?_; clear h Q)
    | (refine bcase_mk (fun hb => ?_) (fun hb => ?_) <;> (try simp only [nS, nT, eq_self, reduceCtorEq] at hb) <;> (try (exfalso; (omega); done)))
    | refine draw_mk (by decide +kernel) ?_
    | refine seq_go ?_
    | refine And.intro (by first | omega | ((try simp only [wS]); omega) | rfl | decide) ?_
    | (apply next_sub (Subtype.mk (x + 1) (by first | omega | (simp only; omega))); (focus (rw [hp']; apply le_mk [some 0, some 1, some 2, some 3]; (focus (iterate 2 (all_goals (repeat' (first | (refine row_setl rfl (subL_cons (sub_int ?_) subL_nil) ?_ rfl rfl rfl) | exact trivial | (intro Q h; refine h ?_; clear h Q) | refine And.intro ?_ ?_ | exact sub_sl rfl rfl rfl | exact sub_refl_val _ _ | exact row_same rfl rfl rfl | ((first | refine sub_int ?_ ); first | with_reducible rfl | omega | ((try simp only [wS]); omega) | rfl) ))))); (any_goals (apply okIx_mk; rfl)))); (all_goals (try (first | omega | (simp only; omega)))))
    ))
      all_goals rfl
    · have hxx : l.length = x := by omega
      subst hxx
      have hTx := hPl l.length (by omega)
      (repeat' (first
    | (intro Q h; refine h ?_; clear h Q)
    | (refine bcase_mk (fun hb => ?_) (fun hb => ?_) <;> (try simp only [nS, nT, eq_self, reduceCtorEq] at hb) <;> (try (exfalso; (omega); done)))
    | (apply ret_mk [some 0, some 1, some 3]; (focus (iterate 2 (all_goals (repeat' (first | exact subL_nil | exact trivial | (intro Q h; refine h ?_; clear h Q) | refine And.intro ?_ ?_ | refine subL_cons ?_ ?_ | refine sub_tup ?_ | exact sub_refl_val _ _ | exact row_same rfl rfl rfl | ((first | refine sub_sl rfl rfl ?_ ); first | with_reducible rfl | omega | ((try simp only [wS]); omega) | rfl) ))))); (any_goals (apply okIx_mk; rfl)))
    ))
end Go.Vx.L53

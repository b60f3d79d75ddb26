/- Lemmas of a small executor for the model, and contracts of functions, used for the law that this claim proves. No condition. -/
import Derived.Test.YtblcjjlggfpehaaBC15
set_option linter.unusedSimpArgs false
set_option linter.unusedVariables false
set_option maxRecDepth 100000
namespace Go.Vx.L53
open Go Go.Proofs
theorem pairsT_in (l : List En) : ∀ x, x ≤ l.length → ∀ p ∈ pairsT l x, (0 ≤ p.a ∧ p.a < l.length) ∧ (0 ≤ p.b ∧ p.b < l.length)
  | 0, _, p, h => by simp [pairsT] at h
  | x + 1, hx, p, h => by
    unfold pairsT at h
    rcases List.mem_append.1 h with h | h
    · exact pairsT_in l x (by omega) p h
    · unfold prS at h
      split at h
      · unfold prOf at h
        rw [List.mem_map] at h
        obtain ⟨k, hk, rfl⟩ := h
        have := (mts_lt l _ k hk).1
        simp only; omega
      · simp at h
theorem sysE_zero {l : List En} {c : Cf} (h1 : lchk l = 0) (h2 : ¬ 159 < l.length) (h3 : confE c = 0) : sysE l c = if ∃ i < l.length, badI l c i then 3 else 0 := by
  unfold sysE; rw [if_neg (by rw [h1]; simp), if_neg h2, if_neg (by rw [h3]; simp)]
theorem conf_rg {c : Cf} (h : confE c = 0) : ((0 ≤ c.ref ∧ c.ref < 24) ∧ (0 ≤ c.err ∧ c.err ≤ 1125899906842624)) ∧ c.tol.length ≤ 24 ∧ tolOK c.tol ∧ ((0 ≤ c.mn ∧ c.mn ≤ 1125899906842624) ∧ (0 ≤ c.mx ∧ c.mx ≤ 1125899906842624)) ∧ c.mn ≤ c.mx := by
  rcases confE_is c with ⟨_, h1⟩ | ⟨g1, ⟨_, h1⟩ | ⟨g2, ⟨_, h1⟩ | ⟨g3, ⟨_, h1⟩ | ⟨g4, ⟨_, h1⟩ | ⟨g5, _⟩⟩⟩⟩⟩
  all_goals first | exact ⟨g1, g2, g3, g4, g5⟩ | (rw [h1] at h; cases h)
theorem tolF_rg {c : Cf} (h : confE c = 0) (n : Int) (hn : 0 ≤ n) : 0 ≤ tolF c n ∧ tolF c n ≤ 500000 := by
  unfold tolF
  split
  · exact (conf_rg h).2.2.1 _ (getD_mem _ _ _ (by omega))
  · omega
set_option maxHeartbeats 2000000 in
theorem system_ok (l : List En) (cap : Option Nat) (c : Cf) (cap2 : Option Nat) (hl : l.length ≤ maxLen) (hc : c.tol.length ≤ maxLen) :
    Runs Try.prog 12 [aL l cap, aC c 1 cap2] [gL l, gT c] (Det (.tup [.val (.int .i64 (sysN l c)), .sl 2 3 0 (sysA l c).length none, .val (.int .i64 (sysE l c))]) [gL l, gT c, cB true (sysA l c)]) := by
  have hmx : maxLen = 9223372036854775807 := by decide
  have hck := check_ok l cap hl
  have hcf := conf_ok c cap2 hc
  have bad : ∀ w, w ≠ 0 → sysE l c = w → sysN l c = 0 ∧ sysA l c = [] := fun w h1 h2 => by
    unfold sysN sysA; rw [h2, if_neg h1, if_neg h1]; exact ⟨rfl, rfl⟩
  have hcont : True := True.intro
  have hts : True := True.intro
  have hlen : True := True.intro
  have x : Nat := 0
  by_cases h1 : lchk l = 0
  rotate_left
  · have hE : sysE l c = lchk l := by unfold sysE; rw [if_pos h1]
    obtain ⟨e1, e2⟩ := bad _ h1 hE
    rw [hE, e1, e2]
    generalize lchk l = w at *
    refine Runs.mk tabOK Try.call12 Try.func12 rfl Try.ntmps12 Try.results12 rfl ?_
    (repeat' (first
    | (intro Q h; refine h ?_; clear h Q)
    | (refine bcase_mk (fun hb => ?_) (fun hb => ?_) <;> (try simp only [nS, nT, eq_self, reduceCtorEq] at hb) <;> (try (exfalso; (first | omega ); done)))
    | refine seq_go ?_
    | ((first | apply call1 (hck) ); (focus (iterate 2 (all_goals (repeat' (first | exact subL_nil | exact trivial | (intro Q h; refine h ?_; clear h Q) | refine And.intro ?_ ?_ | refine subL_cons ?_ ?_ | exact sub_sl rfl rfl rfl | exact row_same rfl rfl rfl ))))); (try (any_goals fail)))
    | (apply ret_mk [some 0, some 1, none]; (focus (iterate 2 (all_goals (repeat' (first | (with_reducible exact row_same rfl rfl rfl) | exact subL_nil | exact trivial | (intro Q h; refine h ?_; clear h Q) | refine And.intro ?_ ?_ | refine subL_cons ?_ ?_ | refine sub_tup ?_ | exact sub_refl_val _ _ | exact row_same rfl rfl rfl | exact sub_nil rfl | ((first | refine virt_mk ?_ ); first | with_reducible rfl | omega | ((try simp only [wS]); omega) | rfl) ))))); (any_goals (apply okIx_mk; rfl)))
    ))
  by_cases h2 : 159 < l.length
  · have hE : sysE l c = 6 := by unfold sysE; rw [if_neg (by rw [h1]; simp), if_pos h2]
    obtain ⟨e1, e2⟩ := bad _ (by decide) hE
    rw [hE, e1, e2]
    rw [h1] at hck
    refine Runs.mk tabOK Try.call12 Try.func12 rfl Try.ntmps12 Try.results12 rfl ?_
    (repeat' (first
    | (intro Q h; refine h ?_; clear h Q)
    | (refine bcase_mk (fun hb => ?_) (fun hb => ?_) <;> (try simp only [nS, nT, eq_self, reduceCtorEq] at hb) <;> (try (exfalso; (first | omega ); done)))
    | refine seq_go ?_
    | ((first | apply call1 (hck) ); (focus (iterate 2 (all_goals (repeat' (first | exact subL_nil | exact trivial | (intro Q h; refine h ?_; clear h Q) | refine And.intro ?_ ?_ | refine subL_cons ?_ ?_ | exact sub_sl rfl rfl rfl | exact row_same rfl rfl rfl ))))); (try (any_goals fail)))
    | (apply ret_mk [some 0, some 1, none]; (focus (iterate 2 (all_goals (repeat' (first | (with_reducible exact row_same rfl rfl rfl) | exact subL_nil | exact trivial | (intro Q h; refine h ?_; clear h Q) | refine And.intro ?_ ?_ | refine subL_cons ?_ ?_ | refine sub_tup ?_ | exact sub_refl_val _ _ | exact row_same rfl rfl rfl | exact sub_nil rfl | ((first | refine virt_mk ?_ ); first | with_reducible rfl | omega | ((try simp only [wS]); omega) | rfl) ))))); (any_goals (apply okIx_mk; rfl)))
    ))
  by_cases h3 : confE c = 0
  rotate_left
  · have hE : sysE l c = confE c := by unfold sysE; rw [if_neg (by rw [h1]; simp), if_neg h2, if_pos h3]
    obtain ⟨e1, e2⟩ := bad _ h3 hE
    rw [hE, e1, e2]
    rw [h1] at hck
    generalize confE c = w at *
    refine Runs.mk tabOK Try.call12 Try.func12 rfl Try.ntmps12 Try.results12 rfl ?_
    (repeat' (first
    | (intro Q h; refine h ?_; clear h Q)
    | (refine bcase_mk (fun hb => ?_) (fun hb => ?_) <;> (try simp only [nS, nT, eq_self, reduceCtorEq] at hb) <;> (try (exfalso; (first | omega ); done)))
    | refine seq_go ?_
    | ((first | apply call1 (hck) ); (focus (iterate 2 (all_goals (repeat' (first | exact subL_nil | exact trivial | (intro Q h; refine h ?_; clear h Q) | refine And.intro ?_ ?_ | refine subL_cons ?_ ?_ | exact sub_sl rfl rfl rfl | exact row_same rfl rfl rfl ))))); (try (any_goals fail)))
    | ((first | apply call1 (hcf) ); (focus (iterate 2 (all_goals (repeat' (first | (with_reducible exact row_same rfl rfl rfl) | exact subL_nil | exact trivial | (intro Q h; refine h ?_; clear h Q) | refine And.intro ?_ ?_ | refine subL_cons ?_ ?_ | refine sub_agg ?_ | exact sub_sl rfl rfl rfl | exact sub_refl_val _ _ ))))); (try (any_goals fail)))
    | (apply ret_mk [some 0, some 1, none]; (focus (iterate 2 (all_goals (repeat' (first | (with_reducible exact row_same rfl rfl rfl) | exact subL_nil | exact trivial | (intro Q h; refine h ?_; clear h Q) | refine And.intro ?_ ?_ | refine subL_cons ?_ ?_ | refine sub_tup ?_ | exact sub_refl_val _ _ | exact row_same rfl rfl rfl | exact sub_nil rfl | ((first | refine virt_mk ?_ ); first | with_reducible rfl | omega | ((try simp only [wS]); omega) | rfl) ))))); (any_goals (apply okIx_mk; rfl)))
    ))
  have hE := sysE_zero h1 h2 h3
  rw [h1] at hck
  rw [h3] at hcf
  have hps := pairs_ok l cap h1
  have hpin := pairsT_in l l.length (Nat.le_refl _)
  have hpl := pairsT_len h1 l.length
  obtain ⟨⟨r1, r2⟩, r3, r4, ⟨r5, r6⟩, r7⟩ := conf_rg h3
  have rg := fun i hi => lchk_rg (i := i) h1 hi
  have tb := fun n hn => tolF_rg h3 n hn
  have htl := fun n hn => tol_ok c cap2 r3 n hn
  have hbt := fun k i hk hi => between_ok l cap h1 k i hk hi
  have L1 := catN_len (refI l c) (refI_len l c)
  have L2 := catN_len (prvI (pairsL l) c) (prvI_len (pairsL l) c)
  have L3 := catN_len (stpI l c) (stpI_len l c)
  rw [show pairsT l l.length = pairsL l from rfl] at hpin hpl
  refine Runs.mk tabOK Try.call12 Try.func12 rfl Try.ntmps12 Try.results12 rfl ?_
  (repeat' (first
    | (intro Q h; refine h ?_; clear h Q)
    | (refine bcase_mk (fun hb => ?_) (fun hb => ?_) <;> (try simp only [nS, nT, eq_self, reduceCtorEq] at hb) <;> (try (exfalso; (first | omega ); done)))
    | refine seq_go ?_
    | ((first | apply call1 (hck) ); (focus (iterate 2 (all_goals (repeat' (first | exact subL_nil | exact trivial | (intro Q h; refine h ?_; clear h Q) | refine And.intro ?_ ?_ | refine subL_cons ?_ ?_ | exact sub_sl rfl rfl rfl | exact row_same rfl rfl rfl ))))); (try (any_goals fail)))
    | ((first | apply call1 (hcf) ); (focus (iterate 2 (all_goals (repeat' (first | (with_reducible exact row_same rfl rfl rfl) | exact subL_nil | exact trivial | (intro Q h; refine h ?_; clear h Q) | refine And.intro ?_ ?_ | refine subL_cons ?_ ?_ | refine sub_agg ?_ | exact sub_sl rfl rfl rfl | exact sub_refl_val _ _ ))))); (try (any_goals fail)))
    ))
  refine loop_inv (σ := Nat) (fun x => x ≤ l.length) (fun x => ⟨[(0, aL l cap), (3, .ptr 2 5 0 0), (9, .sl 3 3 0 (catN (refI l c) x).length none), (34, aL l cap), (35, .val (.int .i64 l.length)), (36, .val (.int .i64 x))], [gL l, gT c, vC c 1 cap2, cB true (catN (refI l c) x)]⟩) (fun x => l.length - x) (0) ?_ ?_ ?_
  · omega
  · (apply le_mk [some 0, some 1, some 2, none]; (focus (iterate 2 (all_goals (repeat' (first | (with_reducible exact row_same rfl rfl rfl) | exact subL_nil | exact trivial | (intro Q h; refine h ?_; clear h Q) | refine And.intro ?_ ?_ | refine subL_cons ?_ ?_ | refine var_mk ?_ | exact sub_ptr rfl rfl | exact sub_sl rfl rfl rfl | exact sub_refl_val _ _ | exact row_same rfl rfl rfl | exact sub_nil rfl | ((first | refine virt_mk ?_ ); first | with_reducible rfl | omega | ((try simp only [wS]); omega) | rfl) ))))); (any_goals (apply okIx_mk; rfl)))
  rintro x hx
  have L1x := L1 x
  by_cases hxl : x < l.length
  · have hz : 0 + Int.toNat x = x := by omega
    have hT0 : ¬ (l.getD (0 + Int.toNat x) en0).nd = c.ref → catN (refI l c) (x + 1) = catN (refI l c) x := fun h => by
      rw [hz] at h
      show _ ++ refI l c x = _
      unfold refI; rw [if_neg h, List.append_nil]
    have hT1 : (l.getD (0 + Int.toNat x) en0).nd = c.ref → catN (refI l c) (x + 1) = catN (refI l c) x ++ [⟨0, (x : Int) + 1, (l.getD (0 + Int.toNat x) en0).c + c.err⟩, ⟨(x : Int) + 1, 0, c.err - (l.getD (0 + Int.toNat x) en0).c⟩] := fun h => by
      rw [hz] at h ⊢
      show _ ++ refI l c x = _
      unfold refI; rw [if_pos h]
    obtain ⟨_, _, _, g1, g2⟩ := rg x hxl
    rw [← hz] at g1 g2
    generalize catN (refI l c) x = W at *
    (repeat' (first
    | (intro Q h; refine h ?_; clear h Q)
    | (refine bcase_mk (fun hb => ?_) (fun hb => ?_) <;> (try simp only [nS, nT, eq_self, reduceCtorEq] at hb) <;> (try (exfalso; (first | omega ); done)))
    | refine seq_go ?_
    | refine And.intro (by first | omega | ((try simp only [wS]); omega) | rfl | decide) ?_
    | (apply next_sub (Subtype.mk (x + 1) (by first | omega | (simp only; omega))); (focus (rw [hT0 (by assumption)]; apply le_mk [some 0, some 1, some 2, some 3]; (focus (iterate 2 (all_goals (repeat' (first | (with_reducible exact row_same rfl rfl rfl) | exact subL_nil | exact trivial | (intro Q h; refine h ?_; clear h Q) | refine And.intro ?_ ?_ | refine subL_cons ?_ ?_ | refine var_mk ?_ | exact sub_ptr rfl rfl | exact sub_sl rfl rfl rfl | exact sub_refl_val _ _ | exact row_same rfl rfl rfl | ((first | refine sub_int ?_ ); first | with_reducible rfl | omega | ((try simp only [wS]); omega) | rfl) ))))); (any_goals (apply okIx_mk; rfl)))); (all_goals (try (first | (simp only; omega)))))
    | (apply next_sub (Subtype.mk (x + 1) (by first | omega | (simp only; omega))); (focus (rw [hT1 (by assumption)]; apply le_mk [some 0, some 1, some 2, some 6]; (focus (iterate 2 (all_goals (repeat' (first | (with_reducible exact row_same rfl rfl rfl) | exact subL_nil | exact trivial | (intro Q h; refine h ?_; clear h Q) | refine And.intro ?_ ?_ | refine subL_cons ?_ ?_ | refine var_mk ?_ | exact sub_ptr rfl rfl | exact sub_sl rfl rfl rfl | exact sub_refl_val _ _ | exact row_same rfl rfl rfl | ((first | refine sub_int ?_ | refine sub_sl rfl rfl ?_ | show (_ : Nat) = _); first | with_reducible rfl | omega | ((try simp only [wS]); omega) | rfl) | apply row_app2 | refine cells_succ ?_ ?_ | exact cell0 | with_reducible rfl | refine sub_int ?_ | refine sub_sl rfl rfl ?_ ))))); (any_goals (apply okIx_mk; rfl)))); (all_goals (try (first | (simp only; omega)))))
    ))
    all_goals first
      | (rw [List.length_append]; rfl)
      | exact cwrap (by omega) (by omega)
      | fail
  have hxx : x = l.length := by omega
  subst hxx
  generalize hA1 : catN (refI l c) l.length = A1 at *
  (repeat' (first
    | (intro Q h; refine h ?_; clear h Q)
    | (refine bcase_mk (fun hb => ?_) (fun hb => ?_) <;> (try simp only [nS, nT, eq_self, reduceCtorEq] at hb) <;> (try (exfalso; (first | omega ); done)))
    | refine seq_go ?_
    | ((first | apply call1 (hps) ); (focus (iterate 2 (all_goals (repeat' (first | exact subL_nil | exact trivial | (intro Q h; refine h ?_; clear h Q) | refine And.intro ?_ ?_ | refine subL_cons ?_ ?_ | exact sub_sl rfl rfl rfl | exact row_same rfl rfl rfl ))))); (try (any_goals fail)))
    ))
  generalize hPS : pairsL l = ps at *
  refine loop_inv (σ := Nat) (fun x => x ≤ ps.length) (fun x => ⟨[(0, aL l cap), (3, .ptr 2 5 0 0), (9, .sl 3 3 0 (A1 ++ catN (prvI ps c) x).length none), (67, .sl 4 2 0 ps.length none), (68, .val (.int .i64 ps.length)), (69, .val (.int .i64 x))], [gL l, gT c, vC c 1 cap2, cB true (A1 ++ catN (prvI ps c) x), prB ps]⟩) (fun x => ps.length - x) (0) ?_ ?_ ?_
  · omega
  · (apply le_mk [some 0, some 1, some 2, some 3, some 4]; (focus (iterate 2 (all_goals (repeat' (first | (with_reducible exact row_same rfl rfl rfl) | exact subL_nil | exact trivial | (intro Q h; refine h ?_; clear h Q) | refine And.intro ?_ ?_ | refine subL_cons ?_ ?_ | refine var_mk ?_ | exact sub_ptr rfl rfl | exact sub_sl rfl rfl rfl | exact sub_refl_val _ _ | exact row_same rfl rfl rfl | exact row_ren rfl rfl rfl | refine sub_sl rfl rfl ?_ | refine row_same rfl ?_ ?_ ))))); (any_goals (apply okIx_mk; rfl)))
    all_goals first
      | (show _ = (A1 ++ []).length; rw [List.append_nil])
      | (show _ = A1 ++ []; rw [List.append_nil])
      | fail
  rintro x hx
  have L2x := L2 x
  by_cases hxl : x < ps.length
  · have hz : 0 + Int.toNat x = x := by omega
    have hT : A1 ++ catN (prvI ps c) (x + 1) = (A1 ++ catN (prvI ps c) x) ++ [⟨(ps.getD (0 + Int.toNat x) pr0).a + 1, (ps.getD (0 + Int.toNat x) pr0).b + 1, c.mx⟩, ⟨(ps.getD (0 + Int.toNat x) pr0).b + 1, (ps.getD (0 + Int.toNat x) pr0).a + 1, -c.mn⟩] := by
      rw [hz, List.append_assoc]; rfl
    have hp := hpin _ (getD_mem ps (0 + Int.toNat x) pr0 (by omega))
    have hWl : (A1 ++ catN (prvI ps c) x).length ≤ 2 * l.length + 2 * x := by rw [List.length_append]; omega
    generalize A1 ++ catN (prvI ps c) x = W at *
    (repeat' (first
    | (intro Q h; refine h ?_; clear h Q)
    | (refine bcase_mk (fun hb => ?_) (fun hb => ?_) <;> (try simp only [nS, nT, eq_self, reduceCtorEq] at hb) <;> (try (exfalso; (first | omega ); done)))
    | refine seq_go ?_
    | refine And.intro (by first | omega | ((try simp only [wS]); omega) | rfl | decide) ?_
    | (apply next_sub (Subtype.mk (x + 1) (by first | omega | (simp only; omega))); (focus (rw [hT]; apply le_mk [some 0, some 1, some 2, some 7, some 4]; (focus (iterate 2 (all_goals (repeat' (first | (with_reducible exact row_same rfl rfl rfl) | exact subL_nil | exact trivial | (intro Q h; refine h ?_; clear h Q) | refine And.intro ?_ ?_ | refine subL_cons ?_ ?_ | refine var_mk ?_ | exact sub_ptr rfl rfl | exact sub_sl rfl rfl rfl | exact sub_refl_val _ _ | exact row_same rfl rfl rfl | ((first | refine sub_int ?_ | refine sub_sl rfl rfl ?_ | show (_ : Nat) = _); first | with_reducible rfl | omega | ((try simp only [wS]); omega) | rfl) | apply row_app2 | refine cells_succ ?_ ?_ | exact cell0 | with_reducible rfl | refine sub_int ?_ | refine sub_sl rfl rfl ?_ ))))); (any_goals (apply okIx_mk; rfl)))); (all_goals (try (first | (simp only; omega)))))
    ))
    all_goals first
      | (rw [List.length_append]; rfl)
      | exact cwrap (by omega) (by omega)
      | exact (cwrap (by omega) (by omega)).trans (Int.zero_sub _)
      | fail
  have hxx : x = ps.length := by omega
  subst hxx
  have hAl : (A1 ++ catN (prvI ps c) ps.length).length ≤ 2 * l.length + 2 * ps.length := by rw [List.length_append]; omega
  have hC : sysC l c = A1 ++ catN (prvI ps c) ps.length ++ catN (stpI l c) l.length := by unfold sysC; rw [hPS, hA1]
  generalize A1 ++ catN (prvI ps c) ps.length = A2 at *
  (repeat' (first
    | (intro Q h; refine h ?_; clear h Q)
    | (refine bcase_mk (fun hb => ?_) (fun hb => ?_) <;> (try simp only [nS, nT, eq_self, reduceCtorEq] at hb) <;> (try (exfalso; (first | omega ); done)))
    | refine seq_go ?_
    ))
  refine loop_inv (σ := Nat) (fun x => x ≤ l.length ∧ ∀ y, y < x → ¬ badI l c y) (fun x => ⟨[(0, aL l cap), (3, .ptr 2 5 0 0), (9, .sl 3 3 0 (A2 ++ catN (stpI l c) x).length none), (14, .map 4), (97, aL l cap), (98, .val (.int .i64 l.length)), (99, .val (.int .i64 x))], [gL l, gT c, vC c 1 cap2, cB true (A2 ++ catN (stpI l c) x), lstB (l.take x)]⟩) (fun x => l.length - x) (0) ?_ ?_ ?_
  · exact ⟨by omega, fun y h => by omega⟩
  · (apply le_mk [some 0, some 1, some 2, some 3, some 5]; (focus (iterate 2 (all_goals (repeat' (first | (with_reducible exact row_same rfl rfl rfl) | exact sub_map rfl | refine map_mk ?_ ?_ | exact subL_nil | exact trivial | (intro Q h; refine h ?_; clear h Q) | refine And.intro ?_ ?_ | refine subL_cons ?_ ?_ | refine var_mk ?_ | exact sub_ptr rfl rfl | exact sub_sl rfl rfl rfl | exact sub_refl_val _ _ | exact row_same rfl rfl rfl | refine sub_sl rfl rfl ?_ | refine row_same rfl ?_ ?_ ))))); (any_goals (apply okIx_mk; rfl)))
    all_goals first
      | (show _ = (A2 ++ []).length; rw [List.append_nil])
      | (show _ = A2 ++ []; rw [List.append_nil])
      | rfl
      | (simp [nodesL])
      | fail
  clear x hts hcont hlen
  rintro x ⟨hx, hnb⟩
  have L3x := L3 x
  have hWl : (A2 ++ catN (stpI l c) x).length ≤ 6 * l.length := by rw [List.length_append]; omega
  by_cases hxl : x < l.length
  · have hz : 0 + Int.toNat x = x := by omega
    have hts := take_snoc l x en0 hxl
    rw [← hz] at hts
    rw [show l.take (0 + Int.toNat x + 1) = l.take (x + 1) by rw [hz]] at hts
    rw [show l.take (0 + Int.toNat x) = l.take x by rw [hz]] at hts
    have hlen : (x : Int) = ((l.take x).length : Nat) := by rw [List.length_take]; omega
    have hcont : (nodesL (l.take x)).contains [(l.getD (0 + Int.toNat x) en0).nd] = (prevI l x).isSome := by rw [cont_nodesL', hz]; rfl
    have hV : lastV (l.take x) [(l.getD (0 + Int.toNat x) en0).nd] = ((prevI l x).getD 0 : Nat) := by unfold lastV; rw [hz]; rfl
    have htl := htl (l.getD (0 + Int.toNat x) en0).nd (rg _ (by omega)).1.1
    have hst : A2 ++ catN (stpI l c) (x + 1) = (A2 ++ catN (stpI l c) x) ++ stpI l c x := by rw [List.append_assoc]; rfl
    have hbd : badI l c x ↔ badI l c x := Iff.rfl
    rcases hp : prevI l x with _ | k
    · rw [hp] at hcont hV
      have hst0 : A2 ++ catN (stpI l c) (x + 1) = A2 ++ catN (stpI l c) x := by
        rw [hst]; unfold stpI; rw [hp, List.append_nil]
      have hnb' : ∀ y, y < x + 1 → ¬ badI l c y := fun y hy => by
        by_cases e : y = x
        · rw [e]; unfold badI; rw [hp]; exact id
        · exact hnb y (by omega)
      rw [show (none : Option Nat).isSome = false from rfl] at hcont
      generalize A2 ++ catN (stpI l c) x = W at *
      (repeat' (first
    | (intro Q h; refine h ?_; clear h Q)
    | (with_reducible refine bcase_false ?_)
    | (refine bcase_mk (fun hb => ?_) (fun hb => ?_) <;> (try simp only [nS, nT, eq_self, reduceCtorEq] at hb) <;> (try (exfalso; (first | omega | (rw [hcont] at hb; cases hb)); done)))
    | refine seq_go ?_
    | refine And.intro (by first | omega | ((try simp only [wS]); omega) | rfl | decide) ?_
    | (apply next_sub (Subtype.mk (x + 1) ⟨by omega, hnb'⟩); (focus (rw [hst0]; apply le_mk [some 0, some 1, some 2, some 3, some 4]; (focus (iterate 2 (all_goals (repeat' (first | (with_reducible exact row_same rfl rfl rfl) | exact lstB_upd (e := l.getD (0 + Int.toNat x) en0) hts rfl hlen | exact sub_map rfl | exact subL_nil | exact trivial | (intro Q h; refine h ?_; clear h Q) | refine And.intro ?_ ?_ | refine subL_cons ?_ ?_ | refine var_mk ?_ | exact sub_ptr rfl rfl | exact sub_sl rfl rfl rfl | exact sub_refl_val _ _ | exact row_same rfl rfl rfl | ((first | refine sub_int ?_ ); first | with_reducible rfl | omega | ((try simp only [wS]); omega) | rfl) ))))); (any_goals (apply okIx_mk; rfl)))); (all_goals (try (first | (simp only; omega)))))
    ))
      all_goals first
        | exact hnb'
        | fail
    · rw [hp] at hcont hV
      rw [show (some k).isSome = true from rfl] at hcont
      rw [show (some k).getD 0 = k from rfl] at hV
      have hk := lastI_lt hp
      rw [List.length_take] at hk
      have hbt := hbt k x (by omega) hxl (tolF c (l.getD (0 + Int.toNat x) en0).nd) (by have := tb (l.getD (0 + Int.toNat x) en0).nd (rg _ (by omega)).1.1; omega)
      by_cases hel : elOK (spanF l k x) (tolF c (l.getD (0 + Int.toNat x) en0).nd)
      · rw [if_pos hel] at hbt
        have hst1 : A2 ++ catN (stpI l c) (x + 1) = (A2 ++ catN (stpI l c) x) ++ btw k x (spanF l k x) (tolF c (l.getD (0 + Int.toNat x) en0).nd) := by
          rw [hst, hz]; unfold stpI; rw [hp]
        have hnb' : ∀ y, y < x + 1 → ¬ badI l c y := fun y hy => by
          by_cases e : y = x
          · rw [e]; unfold badI; rw [hp]; rw [hz] at hel; exact fun h => h hel
          · exact hnb y (by omega)
        have hB : (btw k x (spanF l k x) (tolF c (l.getD (0 + Int.toNat x) en0).nd)).length = 2 := rfl
        generalize btw k x (spanF l k x) (tolF c (l.getD (0 + Int.toNat x) en0).nd) = B at *
        generalize A2 ++ catN (stpI l c) x = W at *
        (repeat' (first
    | (intro Q h; refine h ?_; clear h Q)
    | (with_reducible refine bcase_true ?_)
    | (refine bcase_mk (fun hb => ?_) (fun hb => ?_) <;> (try simp only [nS, nT, eq_self, reduceCtorEq] at hb) <;> (try (exfalso; (first | omega | (rw [hcont] at hb; cases hb)); done)))
    | refine seq_go ?_
    | refine And.intro (by first | omega | ((try simp only [wS]); omega) | rfl | decide) ?_
    | ((first | apply call1 (htl) ); (focus (iterate 2 (all_goals (repeat' (first | (with_reducible exact row_same rfl rfl rfl) | exact subL_nil | exact trivial | (intro Q h; refine h ?_; clear h Q) | refine And.intro ?_ ?_ | refine subL_cons ?_ ?_ | refine sub_agg ?_ | exact sub_sl rfl rfl rfl | exact sub_refl_val _ _ ))))); (try (any_goals fail)))
    | ((first | apply call1 (hbt) ); (focus (iterate 2 (all_goals (repeat' (first | exact subL_nil | exact trivial | (intro Q h; refine h ?_; clear h Q) | refine And.intro ?_ ?_ | refine subL_cons ?_ ?_ | exact sub_sl rfl rfl rfl | exact sub_refl_val _ _ | exact row_same rfl rfl rfl | ((first | refine sub_int ?_ ); first | with_reducible rfl | omega | ((try simp only [wS]); omega) | rfl) ))))); (try (any_goals fail)))
    | (apply next_sub (Subtype.mk (x + 1) ⟨by omega, hnb'⟩); (focus (rw [hst1]; apply le_mk [some 0, some 1, some 2, some 7, some 4]; (focus (iterate 2 (all_goals (repeat' (first | (with_reducible exact row_same rfl rfl rfl) | exact lstB_upd (e := l.getD (0 + Int.toNat x) en0) hts rfl hlen | exact sub_map rfl | exact subL_nil | exact trivial | (intro Q h; refine h ?_; clear h Q) | refine And.intro ?_ ?_ | refine subL_cons ?_ ?_ | refine var_mk ?_ | exact sub_ptr rfl rfl | exact sub_sl rfl rfl rfl | exact sub_refl_val _ _ | exact row_same rfl rfl rfl | ((first | refine sub_int ?_ | refine sub_sl rfl rfl ?_ | show (_ : Nat) = _); first | with_reducible rfl | omega | ((try simp only [wS]); omega) | rfl) | apply row_app2 | refine cells_succ ?_ ?_ | exact cell0 ))))); (any_goals (apply okIx_mk; rfl)))); (all_goals (try (first | (simp only; omega)))))
    ))
        all_goals first
          | exact hnb'
          | (rw [List.length_append]; done)
          | (rcases B with _ | ⟨a, _ | ⟨b, _ | ⟨_, _⟩⟩⟩ <;> first | (simp at hB; done) | rfl)
          | fail
      · rw [if_neg hel] at hbt
        have hE3 : sysE l c = 3 := by
          rw [hE, if_pos ⟨x, hxl, by unfold badI; rw [hp]; rw [hz] at hel; exact hel⟩]
        obtain ⟨e1, e2⟩ := bad _ (by decide) hE3
        rw [hE3, e1, e2]
        generalize A2 ++ catN (stpI l c) x = W at *
        (repeat' (first
    | (intro Q h; refine h ?_; clear h Q)
    | (with_reducible refine bcase_true ?_)
    | (refine bcase_mk (fun hb => ?_) (fun hb => ?_) <;> (try simp only [nS, nT, eq_self, reduceCtorEq] at hb) <;> (try (exfalso; (first | omega | (rw [hcont] at hb; cases hb)); done)))
    | refine seq_go ?_
    | refine And.intro (by first | omega | ((try simp only [wS]); omega) | rfl | decide) ?_
    | ((first | apply call1 (htl) ); (focus (iterate 2 (all_goals (repeat' (first | (with_reducible exact row_same rfl rfl rfl) | exact subL_nil | exact trivial | (intro Q h; refine h ?_; clear h Q) | refine And.intro ?_ ?_ | refine subL_cons ?_ ?_ | refine sub_agg ?_ | exact sub_sl rfl rfl rfl | exact sub_refl_val _ _ ))))); (try (any_goals fail)))
    | ((first | apply call1 (hbt) ); (focus (iterate 2 (all_goals (repeat' (first | exact subL_nil | exact trivial | (intro Q h; refine h ?_; clear h Q) | refine And.intro ?_ ?_ | refine subL_cons ?_ ?_ | exact sub_sl rfl rfl rfl | exact sub_refl_val _ _ | exact row_same rfl rfl rfl | ((first | refine sub_int ?_ ); first | with_reducible rfl | omega | ((try simp only [wS]); omega) | rfl) ))))); (try (any_goals fail)))
    | (apply ret_mk [some 0, some 1, none]; (focus (iterate 2 (all_goals (repeat' (first | (with_reducible exact row_same rfl rfl rfl) | exact subL_nil | exact trivial | (intro Q h; refine h ?_; clear h Q) | refine And.intro ?_ ?_ | refine subL_cons ?_ ?_ | refine sub_tup ?_ | exact sub_refl_val _ _ | exact row_same rfl rfl rfl | exact sub_nil rfl | ((first | refine virt_mk ?_ ); first | with_reducible rfl | omega | ((try simp only [wS]); omega) | rfl) ))))); (any_goals (apply okIx_mk; rfl)))
    ))
  · have hxx : x = l.length := by omega
    subst hxx
    have hE0 : sysE l c = 0 := by rw [hE, if_neg]; rintro ⟨y, h1, h2⟩; exact hnb y h1 h2
    have hN : sysN l c = l.length + 1 := by unfold sysN; rw [if_pos hE0]
    have hA : sysA l c = A2 ++ catN (stpI l c) l.length := by unfold sysA; rw [if_pos hE0, hC]
    rw [hE0, hN, hA]
    generalize A2 ++ catN (stpI l c) l.length = W at *
    have hcont : True := True.intro
    have hts : True := True.intro
    have hlen : True := True.intro
    have x : Nat := 0
    (repeat' (first
    | (intro Q h; refine h ?_; clear h Q)
    | (refine bcase_mk (fun hb => ?_) (fun hb => ?_) <;> (try simp only [nS, nT, eq_self, reduceCtorEq] at hb) <;> (try (exfalso; (first | omega ); done)))
    | (apply ret_mk [some 0, some 1, some 3]; (focus (iterate 2 (all_goals (repeat' (first | (with_reducible exact row_same rfl rfl rfl) | exact subL_nil | exact trivial | (intro Q h; refine h ?_; clear h Q) | refine And.intro ?_ ?_ | refine subL_cons ?_ ?_ | refine sub_tup ?_ | exact sub_sl rfl rfl rfl | exact sub_refl_val _ _ | exact row_same rfl rfl rfl | ((first | refine sub_int ?_ ); first | with_reducible rfl | omega | ((try simp only [wS]); omega) | rfl) ))))); (any_goals (apply okIx_mk; rfl)))
    ))
end Go.Vx.L53

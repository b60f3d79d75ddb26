/- Lemmas of a small executor for the model, and contracts of functions, used for the law that this claim proves. No condition. -/
import Derived.Test.YtblcjjlggfpehaaBC11
set_option linter.unusedSimpArgs false
set_option linter.unusedVariables false
set_option maxRecDepth 100000
namespace Go.Vx.L53
open Go Go.Proofs
set_option maxHeartbeats 1000000 in
theorem pairs_ok (l : List En) (cap : Option Nat) (h0 : lchk l = 0) :
    Runs Try.prog 28 [aL l cap] [gL l] (Det (.sl 1 2 0 (pairsL l).length none) [gL l, prB (pairsL l)]) := by
  have hmx : maxLen = 9223372036854775807 := by decide
  have hl := (lchk_zero h0).1
  have hck := check_ok l cap (by omega)
  rw [h0] at hck
  refine Runs.mk tabOK Try.call28 Try.func28 rfl Try.ntmps28 Try.results28 rfl ?_
  (repeat' (first
    | (intro Q h; refine h ?_; clear h Q)
    | (refine bcase_mk (fun hb => ?_) (fun hb => ?_) <;> (try simp only [nS, nT, eq_self, reduceCtorEq] at hb) <;> (try (exfalso; (omega); done)))
    | refine seq_go ?_
    | ((first | apply call1 (hck) ); (focus (iterate 2 (all_goals (repeat' (first | exact subL_nil | exact trivial | (intro Q h; refine h ?_; clear h Q) | refine And.intro ?_ ?_ | refine subL_cons ?_ ?_ | exact sub_sl rfl rfl rfl | exact row_same rfl rfl rfl ))))); (try (any_goals fail)))
    ))
  refine loop_inv (σ := Nat) (fun x => x ≤ l.length) (fun x => ⟨[(0, aL l cap), (3, .map 1), (15, aL l cap), (16, .val (.int .i64 l.length)), (17, .val (.int .i64 x))], [gL l, sentB (l.take x)]⟩) (fun x => l.length - x) (0) ?_ ?_ ?_
  · omega
  · have x : Nat := 0
    have hts : True := True.intro
    have hlen : True := True.intro
    (apply le_mk [some 0, some 1]; (focus (iterate 2 (all_goals (repeat' (first | exact sub_map rfl | refine map_mk ?_ ?_ | exact trivial | (intro Q h; refine h ?_; clear h Q) | refine And.intro ?_ ?_ | exact sub_sl rfl rfl rfl | exact sub_refl_val _ _ | exact row_same rfl rfl rfl ))))); (any_goals (apply okIx_mk; rfl)))
    all_goals (simp [sentK])
  rintro x hx
  by_cases hxl : x < l.length
  · have hz : 0 + Int.toNat x = x := by omega
    have hts := take_snoc l x en0 hxl
    rw [← hz] at hts
    rw [show l.take (0 + Int.toNat x + 1) = l.take (x + 1) by rw [hz]] at hts
    rw [show l.take (0 + Int.toNat x) = l.take x by rw [hz]] at hts
    have hlen : (x : Int) = ((l.take x).length : Nat) := by rw [List.length_take]; omega
    (repeat' (first
    | (intro Q h; refine h ?_; clear h Q)
    | (refine bcase_mk (fun hb => ?_) (fun hb => ?_) <;> (try simp only [nS, nT, eq_self, reduceCtorEq] at hb) <;> (try (exfalso; (omega); done)))
    | refine seq_go ?_
    | refine And.intro (by first | omega | ((try simp only [wS]); omega) | rfl | decide) ?_
    | (apply next_sub (Subtype.mk (x + 1) _); (focus (apply le_mk [some 0, some 1]; (focus (iterate 2 (all_goals (repeat' (first | exact sentB_same (e := l.getD (0 + Int.toNat x) en0) hts (by assumption) | exact sentB_upd (e := l.getD (0 + Int.toNat x) en0) hts (by assumption) rfl hlen | exact sub_map rfl | exact trivial | (intro Q h; refine h ?_; clear h Q) | refine And.intro ?_ ?_ | exact sub_sl rfl rfl rfl | exact sub_refl_val _ _ | exact row_same rfl rfl rfl | ((first | refine sub_int ?_ ); first | with_reducible rfl | omega | ((try simp only [wS]); omega) | rfl) ))))); (any_goals (apply okIx_mk; rfl)))); (all_goals (try (first | omega | (simp only; omega)))))
    ))
    all_goals fail
  have hxx : x = l.length := by omega
  subst hxx
  rw [List.take_length]
  (repeat' (first
    | (intro Q h; refine h ?_; clear h Q)
    | (refine bcase_mk (fun hb => ?_) (fun hb => ?_) <;> (try simp only [nS, nT, eq_self, reduceCtorEq] at hb) <;> (try (exfalso; (omega); done)))
    | refine seq_go ?_
    ))
  refine loop_inv (σ := Nat) (fun x => x ≤ l.length) (fun x => ⟨[(3, .map 1), (6, .sl 2 2 0 (pairsT l x).length none), (37, aL l cap), (38, .val (.int .i64 l.length)), (39, .val (.int .i64 x))], [gL l, sentB l, prB (pairsT l x)]⟩) (fun x => l.length - x) (0) ?_ ?_ ?_
  · omega
  · have x : Nat := 0
    have hts : True := True.intro
    have hlen : True := True.intro
    (apply le_mk [some 0, some 1, none]; (focus (iterate 2 (all_goals (repeat' (first | exact sub_map rfl | exact map_same rfl | exact trivial | (intro Q h; refine h ?_; clear h Q) | refine And.intro ?_ ?_ | exact sub_sl rfl rfl rfl | exact sub_refl_val _ _ | exact row_same rfl rfl rfl | exact sub_nil rfl | ((first | refine virt_mk ?_ ); first | with_reducible rfl | omega | ((try simp only [wS]); omega) | rfl) ))))); (any_goals (apply okIx_mk; rfl)))
    all_goals fail
  rintro x hx
  by_cases hxl : x < l.length
  · have hz : 0 + Int.toNat x = x := by omega
    have hts : True := True.intro
    have hlen : True := True.intro
    have hT : pairsT l (x + 1) = pairsT l x ++ prS l x := rfl
    have hTl := pairsT_len h0 x
    have hS : prS l x = if (l.getD (0 + Int.toNat x) en0).k = 2 then (if (sentK l).contains (askQ (l.getD (0 + Int.toNat x) en0)) = true then [⟨(sentV l (askQ (l.getD (0 + Int.toNat x) en0)) : Nat), (x : Nat)⟩] else []) else [] := by
      unfold prS
      rw [hz, mts_uniq h0]
      split
      · split <;> rfl
      · rfl
    rw [hS] at hT
    have hc0 : ¬ (l.getD (0 + Int.toNat x) en0).k = 2 → pairsT l (x + 1) = pairsT l x := fun h => by rw [hT, if_neg h, List.append_nil]
    have hc1 : (l.getD (0 + Int.toNat x) en0).k = 2 → (sentK l).contains (askQ (l.getD (0 + Int.toNat x) en0)) = false → pairsT l (x + 1) = pairsT l x := fun h h2 => by rw [hT, if_pos h, h2, if_neg Bool.false_ne_true, List.append_nil]
    have hc2 : (l.getD (0 + Int.toNat x) en0).k = 2 → (sentK l).contains (askQ (l.getD (0 + Int.toNat x) en0)) = true → pairsT l (x + 1) = pairsT l x ++ [⟨(sentV l (askQ (l.getD (0 + Int.toNat x) en0)) : Nat), (x : Nat)⟩] := fun h h2 => by rw [hT, if_pos h, h2, if_pos rfl]
    (repeat' (first
    | (intro Q h; refine h ?_; clear h Q)
    | (with_reducible refine bcase_true ?_)
    | (with_reducible refine bcase_false ?_)
    | (refine bcase_mk (fun hb => ?_) (fun hb => ?_) <;> (try simp only [nS, nT, eq_self, reduceCtorEq] at hb) <;> (try (exfalso; (omega); done)))
    | refine seq_go ?_
    | refine And.intro (by first | omega | ((try simp only [wS]); omega) | rfl | decide) ?_
    | (apply next_sub (Subtype.mk (x + 1) (by first | omega | (simp only; omega))); (focus ((first | rw [hc0 (by assumption)] | rw [hc1 (by assumption) (by assumption)]); apply le_mk [some 0, some 1, some 2]; (focus (iterate 2 (all_goals (repeat' (first | exact sub_map rfl | exact map_same rfl | exact trivial | (intro Q h; refine h ?_; clear h Q) | refine And.intro ?_ ?_ | exact sub_sl rfl rfl rfl | exact sub_refl_val _ _ | exact row_same rfl rfl rfl | ((first | refine sub_int ?_ ); first | with_reducible rfl | omega | ((try simp only [wS]); omega) | rfl) ))))); (any_goals (apply okIx_mk; rfl)))); (all_goals (try (first | (simp only; omega)))))
    | (apply next_sub (Subtype.mk (x + 1) (by first | omega | (simp only; omega))); (focus (rw [hc2 (by assumption) (by assumption)]; apply le_mk [some 0, some 1, some 5]; (focus (iterate 2 (all_goals (repeat' (first | exact sub_map rfl | exact map_same rfl | exact trivial | (intro Q h; refine h ?_; clear h Q) | refine And.intro ?_ ?_ | exact sub_sl rfl rfl rfl | exact sub_refl_val _ _ | exact row_same rfl rfl rfl | ((first | refine sub_int ?_ | refine sub_sl rfl rfl ?_ | show (_ : Nat) = _); first | with_reducible rfl | omega | ((try simp only [wS]); omega) | rfl) | apply row_app1 | refine cells_succ ?_ ?_ | exact cell0 | with_reducible rfl | refine sub_int ?_ | refine sub_sl rfl rfl ?_ ))))); (any_goals (apply okIx_mk; rfl)))); (all_goals (try (first | (simp only; omega)))))
    ))
    all_goals (first | (rw [List.length_append]; rfl) | rfl )
  · have hxx : x = l.length := by omega
    subst hxx
    (repeat' (first
    | (intro Q h; refine h ?_; clear h Q)
    | (refine bcase_mk (fun hb => ?_) (fun hb => ?_) <;> (try simp only [nS, nT, eq_self, reduceCtorEq] at hb) <;> (try (exfalso; (omega); done)))
    | (apply ret_mk [some 0, some 2]; (focus (iterate 2 (all_goals (repeat' (first | exact trivial | (intro Q h; refine h ?_; clear h Q) | refine And.intro ?_ ?_ | exact sub_sl rfl rfl rfl | exact row_same rfl rfl rfl ))))); (any_goals (apply okIx_mk; rfl)))
    ))
    all_goals fail
set_option maxHeartbeats 1000000 in
theorem rpairs_ok (l : List En) (cap : Option Nat) (h0 : lchk l = 0) :
    Runs Try.prog 33 [aL l cap] [gL l] (Det (.sl 1 2 0 (pairsL l).length none) [gL l, prB (pairsL l)]) := by
  have hmx : maxLen = 9223372036854775807 := by decide
  have hl := (lchk_zero h0).1
  have hck := rcheck_ok l cap (by omega)
  rw [h0] at hck
  refine Runs.mk tabOK Try.call33 Try.func33 rfl Try.ntmps33 Try.results33 rfl ?_
  (repeat' (first
    | (intro Q h; refine h ?_; clear h Q)
    | (refine bcase_mk (fun hb => ?_) (fun hb => ?_) <;> (try simp only [nS, nT, eq_self, reduceCtorEq] at hb) <;> (try (exfalso; (omega); done)))
    | refine seq_go ?_
    | ((first | apply call1 (hck) ); (focus (iterate 2 (all_goals (repeat' (first | exact subL_nil | exact trivial | (intro Q h; refine h ?_; clear h Q) | refine And.intro ?_ ?_ | refine subL_cons ?_ ?_ | exact sub_sl rfl rfl rfl | exact row_same rfl rfl rfl ))))); (try (any_goals fail)))
    ))
  refine loop_inv (σ := Nat) (fun x => x ≤ l.length) (fun x => ⟨[(0, aL l cap), (3, .sl 1 2 0 (pairsT l x).length none), (4, .val (.int .i64 x))], [gL l, prB (pairsT l x)]⟩) (fun x => l.length - x) (0) ?_ ?_ ?_
  · omega
  · have x : Nat := 0
    have hts : True := True.intro
    have hlen : True := True.intro
    (apply le_mk [some 0, none]; (focus (iterate 2 (all_goals (repeat' (first | exact trivial | (intro Q h; refine h ?_; clear h Q) | refine And.intro ?_ ?_ | exact sub_sl rfl rfl rfl | exact sub_refl_val _ _ | exact row_same rfl rfl rfl | exact sub_nil rfl | ((first | refine virt_mk ?_ ); first | with_reducible rfl | omega | ((try simp only [wS]); omega) | rfl) ))))); (any_goals (apply okIx_mk; rfl)))
    all_goals fail
  rintro i hi
  have hts : True := True.intro
  have hlen : True := True.intro
  by_cases hil : i < l.length
  · have hzi : 0 + Int.toNat i = i := by omega
    have hTl := pairsT_len h0 i
    (repeat' (first
    | (intro Q h; refine h ?_; clear h Q)
    | (refine bcase_mk (fun hb => ?_) (fun hb => ?_) <;> (try simp only [nS, nT, eq_self, reduceCtorEq] at hb) <;> (try (exfalso; (omega); done)))
    | refine seq_go ?_
    ))
    refine loop_inv (σ := Nat) (fun x => x ≤ l.length ∧ ((l.getD i en0).k ≠ 2 → x = 0)) (fun x => ⟨[(0, aL l cap), (3, .sl 1 2 0 (pairsT l i ++ prOf i (mts (l.take x) (askQ (l.getD i en0)))).length none), (4, .val (.int .i64 i)), (5, .val (.int .i64 x))], [gL l, prB (pairsT l i ++ prOf i (mts (l.take x) (askQ (l.getD i en0))))]⟩) (fun x => l.length - x) (0) ?_ ?_ ?_
    · exact ⟨by omega, fun _ => rfl⟩
    · have x : Nat := 0
      (apply le_mk [some 0, some 1]; (focus (iterate 2 (all_goals (repeat' (first | exact trivial | (intro Q h; refine h ?_; clear h Q) | refine And.intro ?_ ?_ | exact sub_sl rfl rfl rfl | exact sub_refl_val _ _ | exact row_same rfl rfl rfl | refine sub_sl rfl rfl ?_ | refine row_same rfl ?_ ?_ ))))); (any_goals (apply okIx_mk; rfl)))
      all_goals (first | (rw [List.length_append]; rfl) | (simp [mts, mtsF, prOf]; done) )
    rintro x ⟨hx, hx2⟩
    have hm : (mts (l.take x) (askQ (l.getD i en0))).length ≤ 1 := by
      have hn := ordL_nodup l [] (lchk_zero h0).2.2 List.nodup_nil
      rw [List.nil_append] at hn
      have hn2 : (keysT (l.take x)).Nodup := by
        have : keysT l = keysT (l.take x) ++ keysT (l.drop x) := by
          have gen : ∀ a b : List En, keysT (a ++ b) = keysT a ++ keysT b := by
            intro a b
            induction a with
            | nil => rfl
            | cons e a ih => simp only [List.cons_append, keysT, ih]; split <;> rfl
          rw [← gen, List.take_append_drop]
        rw [this] at hn
        exact (List.nodup_append.1 hn).1
      rcases mts_one (l.take x) (askQ (l.getD i en0)) hn2 with h | ⟨k, h⟩ <;> rw [h] <;> simp
    have hpl : (prOf i (mts (l.take x) (askQ (l.getD i en0)))).length ≤ 1 := by unfold prOf; rw [List.length_map]; exact hm
    by_cases hx3 : x < l.length ∧ (l.getD i en0).k = 2
    · obtain ⟨hxl, hk2⟩ := hx3
      have hz : 0 + Int.toNat x = x := by omega
      have hsn : mts (l.take (x + 1)) (askQ (l.getD i en0)) = if isS (l.getD (0 + Int.toNat x) en0) (askQ (l.getD (0 + Int.toNat i) en0)) then mts (l.take x) (askQ (l.getD i en0)) ++ [x] else mts (l.take x) (askQ (l.getD i en0)) := by
        rw [take_snoc l x en0 hxl, mts_snoc, List.length_take, Nat.min_eq_left hx, hz, hzi]
      have hc0 : ¬ isS (l.getD (0 + Int.toNat x) en0) (askQ (l.getD (0 + Int.toNat i) en0)) → pairsT l i ++ prOf i (mts (l.take (x + 1)) (askQ (l.getD i en0))) = pairsT l i ++ prOf i (mts (l.take x) (askQ (l.getD i en0))) := fun h => by rw [hsn, if_neg h]
      have hc1 : isS (l.getD (0 + Int.toNat x) en0) (askQ (l.getD (0 + Int.toNat i) en0)) → pairsT l i ++ prOf i (mts (l.take (x + 1)) (askQ (l.getD i en0))) = (pairsT l i ++ prOf i (mts (l.take x) (askQ (l.getD i en0)))) ++ [⟨(x : Nat), (i : Nat)⟩] := fun h => by rw [hsn, if_pos h, prOf, prOf, List.map_append, List.append_assoc]; rfl
      have hk2' : (l.getD (0 + Int.toNat i) en0).k = 2 := by rw [hzi]; exact hk2
      generalize hW : pairsT l i ++ prOf i (mts (l.take x) (askQ (l.getD i en0))) = W at *
      have hWl : W.length ≤ i + 1 := by rw [← hW, List.length_append]; omega
      have hq : ∀ e f : En, (e.k = 1 ∧ e.nd = f.p ∧ e.p = f.nd ∧ e.m = f.m) → isS e (askQ f) := fun e f ⟨g1, g2, g3, g4⟩ => ⟨g1, by unfold keyE askQ; rw [g1, g2, g3, g4]⟩
      have hq' : ∀ e f : En, isS e (askQ f) → e.k = 1 ∧ e.nd = f.p ∧ e.p = f.nd ∧ e.m = f.m := fun e f ⟨g1, g2⟩ => by
        unfold keyE askQ at g2
        simp only [List.cons.injEq, and_true] at g2
        exact g2
      (repeat' (first
    | (intro Q h; refine h ?_; clear h Q)
    | (refine bcase_mk (fun hb => ?_) (fun hb => ?_) <;> (try simp only [nS, nT, eq_self, reduceCtorEq] at hb) <;> (try (exfalso; (omega); done)))
    | refine draw_mk (by decide +kernel) ?_
    | refine seq_go ?_
    | refine And.intro (by first | omega | ((try simp only [wS]); omega) | rfl | decide) ?_
    | (apply next_sub (Subtype.mk (x + 1) (by first | omega | (simp only; omega))); (focus (rw [hc1 (hq _ _ ⟨by assumption, by assumption, by assumption, by assumption⟩)]; apply le_mk [some 0, some 3]; (focus (iterate 2 (all_goals (repeat' (first | exact trivial | (intro Q h; refine h ?_; clear h Q) | refine And.intro ?_ ?_ | exact sub_sl rfl rfl rfl | exact sub_refl_val _ _ | exact row_same rfl rfl rfl | ((first | refine sub_int ?_ | refine sub_sl rfl rfl ?_ | show (_ : Nat) = _); first | with_reducible rfl | omega | ((try simp only [wS]); omega) | rfl) | apply row_app1 | refine cells_succ ?_ ?_ | exact cell0 | with_reducible rfl | refine sub_int ?_ | refine sub_sl rfl rfl ?_ ))))); (any_goals (apply okIx_mk; rfl)))); (all_goals (try (first | (simp only; omega)))))
    | (apply next_sub (Subtype.mk (x + 1) (by first | omega | (simp only; omega))); (focus (rw [hc0 (fun h => (by obtain ⟨g1, g2, g3, g4⟩ := hq' _ _ h; contradiction))]; apply le_mk [some 0, some 1]; (focus (iterate 2 (all_goals (repeat' (first | exact trivial | (intro Q h; refine h ?_; clear h Q) | refine And.intro ?_ ?_ | exact sub_sl rfl rfl rfl | exact sub_refl_val _ _ | exact row_same rfl rfl rfl | ((first | refine sub_int ?_ ); first | with_reducible rfl | omega | ((try simp only [wS]); omega) | rfl) ))))); (any_goals (apply okIx_mk; rfl)))); (all_goals (try (first | (simp only; omega)))))
    ))
      all_goals (first | (rw [List.length_append]; rfl) )
    · have hE : pairsT l (i + 1) = pairsT l i ++ prOf i (mts (l.take x) (askQ (l.getD i en0))) := by
        show pairsT l i ++ prS l i = _
        unfold prS
        by_cases hk : (l.getD i en0).k = 2
        · have : x = l.length := by omega
          rw [if_pos hk, this, List.take_length]
        · rw [if_neg hk, hx2 hk]; rfl
      have hno : ¬ (l.getD (0 + Int.toNat i) en0).k = 2 ∨ x = l.length := by rw [hzi]; omega
      generalize hW : pairsT l i ++ prOf i (mts (l.take x) (askQ (l.getD i en0))) = W at *
      (repeat' (first
    | (intro Q h; refine h ?_; clear h Q)
    | (refine bcase_mk (fun hb => ?_) (fun hb => ?_) <;> (try simp only [nS, nT, eq_self, reduceCtorEq] at hb) <;> (try (exfalso; (omega); done)))
    | refine seq_go ?_
    | refine And.intro (by first | omega | ((try simp only [wS]); omega) | rfl | decide) ?_
    | (apply next_sub (Subtype.mk (i + 1) (by first | omega | (simp only; omega))); (focus (rw [hE]; apply le_mk [some 0, some 1]; (focus (iterate 2 (all_goals (repeat' (first | exact trivial | (intro Q h; refine h ?_; clear h Q) | refine And.intro ?_ ?_ | exact sub_sl rfl rfl rfl | exact row_same rfl rfl rfl | ((first | refine sub_int ?_ ); first | with_reducible rfl | omega | ((try simp only [wS]); omega) | rfl) ))))); (any_goals (apply okIx_mk; rfl)))); (all_goals (try (first | (simp only; omega)))))
    ))
      all_goals fail
  · have hxx : i = l.length := by omega
    subst hxx
    (repeat' (first
    | (intro Q h; refine h ?_; clear h Q)
    | (refine bcase_mk (fun hb => ?_) (fun hb => ?_) <;> (try simp only [nS, nT, eq_self, reduceCtorEq] at hb) <;> (try (exfalso; (omega); done)))
    | refine seq_go ?_
    | (apply ret_mk [some 0, some 1]; (focus (iterate 2 (all_goals (repeat' (first | exact trivial | (intro Q h; refine h ?_; clear h Q) | refine And.intro ?_ ?_ | exact sub_sl rfl rfl rfl | exact row_same rfl rfl rfl ))))); (any_goals (apply okIx_mk; rfl)))
    ))
    all_goals fail
end Go.Vx.L53

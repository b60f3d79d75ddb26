/- Lemmas of a small executor for the model, and contracts of functions, used for the law that this claim proves. No condition. -/
import Derived.Test.YtblcjjlggfpehaaBC25
set_option linter.unusedSimpArgs false
set_option linter.unusedVariables false
set_option maxRecDepth 100000
namespace Go.Vx.L53
open Go Go.Proofs
/-- An interval. -/
structure Iv where
  lo : Int
  hi : Int
def ivC (v : Iv) : List AV := [.val (.int .i64 v.lo), .val (.int .i64 v.hi)]
def iv0 : Iv := ⟨0, 0⟩
abbrev ivF (l : List Iv) : Nat → Nat → AV := rowF ivC iv0 l
instance : FlatC ivC := ⟨by intro e v hv; simp only [ivC, List.mem_cons, List.not_mem_nil, or_false] at hv; rcases hv with rfl | rfl <;> exact trivial⟩
abbrev vB (rw : Bool) (l : List Iv) : Blk := .arr rw 38 2 l.length (ivF l)
def loI (l : List En) (M : List (List Int)) (i : Nat) : Int := if mg M 0 (i + 1) = NN then -8000000000000000000 else IntKind.i64.wrap ((l.getD i en0).c - mg M 0 (i + 1))
def hiI (l : List En) (M : List (List Int)) (i : Nat) : Int := if mg M (i + 1) 0 = NN then 8000000000000000000 else IntKind.i64.wrap ((l.getD i en0).c + mg M (i + 1) 0)
def ivI (l : List En) (M : List (List Int)) (i : Nat) : Iv := ⟨loI l M i, hiI l M i⟩
/-- The first intervals, then nothing yet. -/
def ivT (l : List En) (M : List (List Int)) (x : Nat) : List Iv := (List.range x).map (ivI l M) ++ List.replicate (l.length - x) iv0
def ivL (l : List En) (M : List (List Int)) : List Iv := (List.range l.length).map (ivI l M)
theorem ivT_len (l : List En) (M : List (List Int)) (x : Nat) (h : x ≤ l.length) : (ivT l M x).length = l.length := by simp [ivT]; omega
theorem ivT_set (l : List En) (M : List (List Int)) (x : Nat) (h : x < l.length) : ivT l M (x + 1) = (ivT l M x).set x (ivI l M x) := by
  unfold ivT
  rw [List.set_append_right _ _ (by simp), List.length_map, List.length_range, Nat.sub_self, show l.length - x = (l.length - (x + 1)) + 1 by omega, List.replicate_succ, List.set_cons_zero, List.range_succ, List.map_append, List.append_assoc]
  rfl
theorem ivT_end (l : List En) (M : List (List Int)) : ivT l M l.length = ivL l M := by simp [ivT, ivL]
def ofE (l : List En) (c : Cf) : Int := if sysE l c ≠ 0 then sysE l c else bndE (sysN l c) (sysA l c)
def ofA (l : List En) (c : Cf) : List Iv := if ofE l c = 0 then ivL l (bndA (sysN l c) (sysA l c)) else []
theorem sys_zero {l : List En} {c : Cf} (h : sysE l c = 0) : lchk l = 0 ∧ l.length ≤ 159 ∧ confE c = 0 ∧ (∀ i, i < l.length → ¬ badI l c i) := by
  unfold sysE at h
  split at h
  · rename_i h1; exact absurd h h1
  rename_i h1
  split at h
  · cases h
  rename_i h2
  split at h
  · rename_i h3; exact absurd h h3
  rename_i h3
  split at h
  · cases h
  rename_i h4
  exact ⟨Decidable.not_not.1 h1, by omega, Decidable.not_not.1 h3, fun i hi hb => h4 ⟨i, hi, hb⟩⟩
theorem sysA_len (l : List En) (c : Cf) : (sysA l c).length ≤ 1000 := by
  unfold sysA
  split
  · rename_i h
    obtain ⟨h1, h2, _⟩ := sys_zero h
    unfold sysC
    have a := catN_len (refI l c) (refI_len l c) l.length
    have b := catN_len (prvI (pairsL l) c) (prvI_len (pairsL l) c) (pairsL l).length
    have d := catN_len (stpI l c) (stpI_len l c) l.length
    have e : (pairsL l).length ≤ l.length := pairsT_len h1 l.length
    simp only [List.length_append]; omega
  · simp
theorem bnd_zero {n : Int} {l : List Cn} (h : bndE n l = 0) : cchk n l = 0 ∧ cyc l n.toNat = false := by
  unfold bndE at h
  split at h
  · rename_i h1; exact absurd h h1
  rename_i h1
  split at h
  · cases h
  rename_i h2
  exact ⟨Decidable.not_not.1 h1, by simpa using h2⟩
theorem of_zero {l : List En} {c : Cf} (h : ofE l c = 0) : sysE l c = 0 ∧ bndE (sysN l c) (sysA l c) = 0 := by
  unfold ofE at h
  split at h
  · rename_i h1; exact absurd h h1
  · rename_i h1; exact ⟨Decidable.not_not.1 h1, h⟩
theorem bndA_sq {n : Int} {l : List Cn} (h : bndE n l = 0) : Sq n.toNat (bndA n l) := by
  obtain ⟨h1, _⟩ := bnd_zero h
  obtain ⟨m, rfl, _, _, hok⟩ := cchk_zero h1
  unfold bndA
  rw [if_pos h, Int.toNat_natCast]
  exact fw_sq hok
set_option maxHeartbeats 2000000 in
theorem offsets_ok (l : List En) (cap : Option Nat) (c : Cf) (cap2 : Option Nat) (hl : l.length ≤ maxLen) (hc : c.tol.length ≤ maxLen) :
    Runs Try.prog 14 [aL l cap, aC c 1 cap2] [gL l, gT c] (Det (.tup [.sl 2 2 0 (ofA l c).length none, .val (.int .i64 (ofE l c))]) [gL l, gT c, vB true (ofA l c)]) := by
  have hmx : maxLen = 9223372036854775807 := by decide
  have hsy := system_ok l cap c cap2 hl hc
  have hsl := sysA_len l c
  have hbn := bounds_ok (sysN l c) (sysA l c) none (by omega)
  by_cases h0 : sysE l c = 0
  rotate_left
  · have hE : ofE l c = sysE l c := by unfold ofE; rw [if_pos h0]
    have hA : ofA l c = [] := by unfold ofA; rw [hE, if_neg h0]
    rw [hA, hE]
    generalize sysE l c = w at *
    refine Runs.mk tabOK Try.call14 Try.func14 rfl Try.ntmps14 Try.results14 rfl ?_
    (repeat' (first
    | (intro Q h; refine h ?_; clear h Q)
    | (refine bcase_mk (fun hb => ?_) (fun hb => ?_) <;> (try simp only [nS, nT, eq_self, reduceCtorEq] at hb) <;> (try (exfalso; (omega); done)))
    | refine seq_go ?_
    | ((first | apply call_detx [some 0, some 1] (hsy) ); (focus ((iterate 2 (all_goals (repeat' (first | exact subL_nil | exact trivial | (intro Q h; refine h ?_; clear h Q) | refine And.intro ?_ ?_ | refine subL_cons ?_ ?_ | refine sub_agg ?_ | exact sub_sl rfl rfl rfl | exact sub_refl_val _ _ | exact row_same rfl rfl rfl )))))); (any_goals (first | (apply nodup_mk; rfl) )))
    | (apply ret_mk [some 0, some 1, none]; (focus (iterate 2 (all_goals (repeat' (first | exact subL_nil | exact trivial | (intro Q h; refine h ?_; clear h Q) | refine And.intro ?_ ?_ | refine subL_cons ?_ ?_ | refine sub_tup ?_ | exact sub_refl_val _ _ | exact row_same rfl rfl rfl | exact sub_nil rfl | ((first | refine virt_mk ?_ ); first | with_reducible rfl | omega | ((try simp only [wS]); omega) | rfl) ))))); (any_goals (apply okIx_mk; rfl)))
    ))
  have hE : ofE l c = bndE (sysN l c) (sysA l c) := by unfold ofE; rw [if_neg (not_not_intro h0)]
  rw [h0] at hsy
  by_cases h1 : bndE (sysN l c) (sysA l c) = 0
  rotate_left
  · have hA : ofA l c = [] := by unfold ofA; rw [hE, if_neg h1]
    rw [hA, hE]
    generalize bndE (sysN l c) (sysA l c) = w at *
    refine Runs.mk tabOK Try.call14 Try.func14 rfl Try.ntmps14 Try.results14 rfl ?_
    (repeat' (first
    | (intro Q h; refine h ?_; clear h Q)
    | (refine bcase_mk (fun hb => ?_) (fun hb => ?_) <;> (try simp only [nS, nT, eq_self, reduceCtorEq] at hb) <;> (try (exfalso; (omega); done)))
    | refine seq_go ?_
    | ((first | apply call_detx [some 0, some 1] (hsy) ); (focus ((iterate 2 (all_goals (repeat' (first | exact subL_nil | exact trivial | (intro Q h; refine h ?_; clear h Q) | refine And.intro ?_ ?_ | refine subL_cons ?_ ?_ | refine sub_agg ?_ | exact sub_sl rfl rfl rfl | exact sub_refl_val _ _ | exact row_same rfl rfl rfl )))))); (any_goals (first | (apply nodup_mk; rfl) )))
    | ((first | apply call1 (hbn) ); (focus (iterate 2 (all_goals (repeat' (first | exact subL_nil | exact trivial | (intro Q h; refine h ?_; clear h Q) | refine And.intro ?_ ?_ | refine subL_cons ?_ ?_ | exact sub_sl rfl rfl rfl | exact sub_refl_val _ _ | exact row_ren rfl rfl rfl ))))); (try (any_goals fail)))
    | (apply ret_mk [some 0, some 1, none]; (focus (iterate 2 (all_goals (repeat' (first | exact subL_nil | exact trivial | (intro Q h; refine h ?_; clear h Q) | refine And.intro ?_ ?_ | refine subL_cons ?_ ?_ | refine sub_tup ?_ | exact sub_refl_val _ _ | exact row_same rfl rfl rfl | exact sub_nil rfl | ((first | refine virt_mk ?_ ); first | with_reducible rfl | omega | ((try simp only [wS]); omega) | rfl) ))))); (any_goals (apply okIx_mk; rfl)))
    ))
  have hA : ofA l c = ivL l (bndA (sysN l c) (sysA l c)) := by unfold ofA; rw [hE, if_pos h1]
  have hsq := bndA_sq h1
  have hN : sysN l c = l.length + 1 := by unfold sysN; rw [if_pos h0]
  obtain ⟨z1, z2, z3, _⟩ := sys_zero h0
  have hsq2 := hsq
  rw [show (sysN l c).toNat = l.length + 1 by rw [hN]; omega] at hsq
  rw [h1] at hbn
  rw [hA, hE, h1]
  have hiE := ivT_end l (bndA (sysN l c) (sysA l c))
  have hiS := ivT_set l (bndA (sysN l c) (sysA l c))
  have hiL := ivT_len l (bndA (sysN l c) (sysA l c))
  have hi0 : ivT l (bndA (sysN l c) (sysA l c)) 0 = List.replicate l.length iv0 := by simp [ivT]
  have hiv : ∀ i, ivI l (bndA (sysN l c) (sysA l c)) i = ⟨loI l (bndA (sysN l c) (sysA l c)) i, hiI l (bndA (sysN l c) (sysA l c)) i⟩ := fun _ => rfl
  have hlo : ∀ i, (mg (bndA (sysN l c) (sysA l c)) 0 (i + 1) = NN ∧ loI l (bndA (sysN l c) (sysA l c)) i = -8000000000000000000) ∨ (¬ mg (bndA (sysN l c) (sysA l c)) 0 (i + 1) = NN ∧ loI l (bndA (sysN l c) (sysA l c)) i = IntKind.i64.wrap ((l.getD i en0).c - mg (bndA (sysN l c) (sysA l c)) 0 (i + 1))) := fun i => by
    unfold loI; split
    · exact .inl ⟨by assumption, rfl⟩
    · exact .inr ⟨by assumption, rfl⟩
  have hhi : ∀ i, (mg (bndA (sysN l c) (sysA l c)) (i + 1) 0 = NN ∧ hiI l (bndA (sysN l c) (sysA l c)) i = 8000000000000000000) ∨ (¬ mg (bndA (sysN l c) (sysA l c)) (i + 1) 0 = NN ∧ hiI l (bndA (sysN l c) (sysA l c)) i = IntKind.i64.wrap ((l.getD i en0).c + mg (bndA (sysN l c) (sysA l c)) (i + 1) 0)) := fun i => by
    unfold hiI; split
    · exact .inl ⟨by assumption, rfl⟩
    · exact .inr ⟨by assumption, rfl⟩
  rw [← hiE]
  generalize bndA (sysN l c) (sysA l c) = M at *
  generalize loI l M = LO at *
  generalize hiI l M = HI at *
  generalize ivI l M = IV at *
  generalize ivT l M = T at *
  rw [hsq.len] at hbn
  refine Runs.mk tabOK Try.call14 Try.func14 rfl Try.ntmps14 Try.results14 rfl ?_
  (repeat' (first
    | (intro Q h; refine h ?_; clear h Q)
    | (refine bcase_mk (fun hb => ?_) (fun hb => ?_) <;> (try simp only [nS, nT, eq_self, reduceCtorEq] at hb) <;> (try (exfalso; (omega); done)))
    | refine seq_go ?_
    | refine And.intro (by first | omega | ((try simp only [wS]); omega) | rfl | decide) ?_
    | ((first | apply call_detx [some 0, some 1] (hsy) ); (focus ((iterate 2 (all_goals (repeat' (first | exact subL_nil | exact trivial | (intro Q h; refine h ?_; clear h Q) | refine And.intro ?_ ?_ | refine subL_cons ?_ ?_ | refine sub_agg ?_ | exact sub_sl rfl rfl rfl | exact sub_refl_val _ _ | exact row_same rfl rfl rfl )))))); (any_goals (first | (apply nodup_mk; rfl) )))
    | ((first | apply call1 (hbn) ); (focus (iterate 2 (all_goals (repeat' (first | exact subL_nil | exact trivial | (intro Q h; refine h ?_; clear h Q) | refine And.intro ?_ ?_ | refine subL_cons ?_ ?_ | exact sub_sl rfl rfl rfl | exact sub_refl_val _ _ | exact row_ren rfl rfl rfl ))))); (try (any_goals fail)))
    ))
  refine loop_inv (σ := Nat) (fun x => x ≤ l.length) (fun x => ⟨[(9, .sl 2 1 0 (l.length + 1) none), (10, .sl 3 2 0 l.length none), (38, aL l cap), (39, .val (.int .i64 l.length)), (40, .val (.int .i64 x))], [gL l, gT c, fB (l.length + 1) M, vB true (T x)]⟩) (fun x => l.length - x) (0) ?_ ?_ ?_
  · omega
  · (apply le_mk [some 0, some 1, some 4, some 5]; (focus (iterate 2 (all_goals (repeat' (first | exact trivial | (intro Q h; refine h ?_; clear h Q) | refine And.intro ?_ ?_ | exact sub_sl rfl rfl rfl | exact sub_refl_val _ _ | exact row_same rfl rfl rfl ))))); (any_goals (apply okIx_mk; rfl)))
    · exact fam_ren rfl hsq.len rfl
    · exact row_rep (x := iv0) (subL_cons (sub_refl_val _ _) (subL_cons (sub_refl_val _ _) subL_nil)) (by rw [hi0, List.length_replicate]) (by rw [hi0, List.length_replicate, Int.toNat_natCast])
  rintro x hx
  have hTl := hiL x hx
  by_cases hxl : x < l.length
  · have hz : 0 + Int.toNat x = x := by omega
    have hz1 : 0 + Int.toNat (IntKind.i64.wrap ((x : Int) + 1)) = x + 1 := by rw [cwrap (by omega) (by omega)]; omega
    have hTs := hiS x hxl
    rw [hiv, show (T x).set x (⟨LO x, HI x⟩ : Iv) = (T x).set (0 + Int.toNat x) ⟨LO x, HI x⟩ by rw [hz]] at hTs
    have hlo := hlo x
    have hhi := hhi x
    have hr0 : (M.getD (0 + Int.toNat 0) []).length = l.length + 1 := hsq.row 0 (by omega)
    have hr1 := hsq.row (x + 1) (by omega)
    have hml := hsq.len
    rw [← hz1] at hr1
    have hf0 := famF_fst intC 0 M (0 + Int.toNat 0)
    have hf1 := famF_fst intC 0 M (0 + Int.toNat (IntKind.i64.wrap ((x : Int) + 1)))
    rw [hr0] at hf0
    rw [hr1] at hf1
    have e1 : mg M 0 (x + 1) = (M.getD (0 + Int.toNat 0) []).getD (0 + Int.toNat (IntKind.i64.wrap ((x : Int) + 1))) 0 := by rw [hz1]; rfl
    have e2 : mg M (x + 1) 0 = (M.getD (0 + Int.toNat (IntKind.i64.wrap ((x : Int) + 1))) []).getD (0 + Int.toNat 0) 0 := by rw [hz1]; rfl
    rw [e1, show l.getD x en0 = l.getD (0 + Int.toNat x) en0 by rw [hz]] at hlo
    rw [e2, show l.getD x en0 = l.getD (0 + Int.toNat x) en0 by rw [hz]] at hhi
    generalize LO x = lo at *
    generalize HI x = hi at *
    rw [show NN = 4611686018427387904 from rfl] at hlo hhi
    (repeat' (first
    | (intro Q h; refine h ?_; clear h Q)
    | (refine bcase_mk (fun hb => ?_) (fun hb => ?_) <;> (try simp only [nS, nT, eq_self, reduceCtorEq] at hb) <;> (try (exfalso; (omega); done)))
    | refine seq_go ?_
    | refine And.intro (by first | omega | ((try simp only [wS]); omega) | rfl | decide) ?_
    | (apply next_sub (Subtype.mk (x + 1) (by first | omega | (simp only; omega))); (focus (rw [hTs]; apply le_mk [some 0, some 1, some 2, some 3]; (focus (iterate 2 (all_goals (repeat' (first | exact fam_same rfl rfl rfl | (refine row_setl rfl (subL_cons (sub_int ?_) (subL_cons (sub_int ?_) subL_nil)) ?_ rfl rfl rfl) | exact trivial | (intro Q h; refine h ?_; clear h Q) | refine And.intro ?_ ?_ | exact sub_sl rfl rfl rfl | exact sub_refl_val _ _ | exact row_same rfl rfl rfl | ((first | refine sub_int ?_ ); first | with_reducible rfl | omega | ((try simp only [wS]); omega) | rfl) ))))); (any_goals (apply okIx_mk; rfl)))); (all_goals (try (first | omega | (simp only; omega)))))
    ))
    all_goals (simp only []; omega)
  · have hxx : l.length = x := by omega
    subst hxx
    (repeat' (first
    | (intro Q h; refine h ?_; clear h Q)
    | (refine bcase_mk (fun hb => ?_) (fun hb => ?_) <;> (try simp only [nS, nT, eq_self, reduceCtorEq] at hb) <;> (try (exfalso; (omega); done)))
    | (apply ret_mk [some 0, some 1, some 3]; (focus (iterate 2 (all_goals (repeat' (first | exact subL_nil | exact trivial | (intro Q h; refine h ?_; clear h Q) | refine And.intro ?_ ?_ | refine subL_cons ?_ ?_ | refine sub_tup ?_ | exact sub_refl_val _ _ | exact row_same rfl rfl rfl | ((first | refine sub_sl rfl rfl ?_ ); first | with_reducible rfl | omega | ((try simp only [wS]); omega) | rfl) ))))); (any_goals (apply okIx_mk; rfl)))
    ))
def rofE (l : List En) (c : Cf) : Int := if sysE l c ≠ 0 then sysE l c else rsvE (sysN l c) (sysA l c)
def rofA (l : List En) (c : Cf) : List Iv := if rofE l c = 0 then ivL l (rbdA (sysN l c) (sysA l c)) else []
theorem rsv_zero {n : Int} {l : List Cn} (h : rsvE n l = 0) : cchk n l = 0 ∧ (slvI l n.toNat).isSome = true := by
  unfold rsvE at h
  split at h
  · rename_i h1; exact absurd h h1
  rename_i h1
  split at h
  · rename_i h2; exact ⟨Decidable.not_not.1 h1, h2⟩
  · cases h
theorem rbdA_sq {n : Int} {l : List Cn} (h : rsvE n l = 0) : Sq n.toNat (rbdA n l) := by
  obtain ⟨h1, _⟩ := rsv_zero h
  obtain ⟨m, rfl, _, _, hok⟩ := cchk_zero h1
  unfold rbdA
  rw [if_pos h, Int.toNat_natCast]
  exact fw_sq hok
def ivP (l : List En) (M : List (List Int)) (x : Nat) : List Iv := (List.range x).map (ivI l M)
theorem ivP_snoc (l : List En) (M : List (List Int)) (x : Nat) : ivP l M (x + 1) = ivP l M x ++ [ivI l M x] := by
  unfold ivP; rw [List.range_succ, List.map_append]; rfl
theorem ivP_len (l : List En) (M : List (List Int)) (x : Nat) : (ivP l M x).length = x := by simp [ivP]
set_option maxHeartbeats 2000000 in
theorem roffsets_ok (l : List En) (cap : Option Nat) (c : Cf) (cap2 : Option Nat) (hl : l.length ≤ maxLen) (hc : c.tol.length ≤ maxLen) :
    Runs Try.prog 15 [aL l cap, aC c 1 cap2] [gL l, gT c] (Det (.tup [.sl 2 2 0 (rofA l c).length none, .val (.int .i64 (rofE l c))]) [gL l, gT c, vB true (rofA l c)]) := by
  have hmx : maxLen = 9223372036854775807 := by decide
  have hsy := rsystem_ok l cap c cap2 hl hc
  have hsl := sysA_len l c
  have hbn := rbounds_ok (sysN l c) (sysA l c) none (by omega)
  by_cases h0 : sysE l c = 0
  rotate_left
  · have hE : rofE l c = sysE l c := by unfold rofE; rw [if_pos h0]
    have hA : rofA l c = [] := by unfold rofA; rw [hE, if_neg h0]
    rw [hA, hE]
    generalize sysE l c = w at *
    refine Runs.mk tabOK Try.call15 Try.func15 rfl Try.ntmps15 Try.results15 rfl ?_
    (repeat' (first
    | (intro Q h; refine h ?_; clear h Q)
    | (refine bcase_mk (fun hb => ?_) (fun hb => ?_) <;> (try simp only [nS, nT, eq_self, reduceCtorEq] at hb) <;> (try (exfalso; (omega); done)))
    | refine seq_go ?_
    | ((first | apply call_detx [some 0, some 1] (hsy) ); (focus ((iterate 2 (all_goals (repeat' (first | exact subL_nil | exact trivial | (intro Q h; refine h ?_; clear h Q) | refine And.intro ?_ ?_ | refine subL_cons ?_ ?_ | refine sub_agg ?_ | exact sub_sl rfl rfl rfl | exact sub_refl_val _ _ | exact row_same rfl rfl rfl )))))); (any_goals (first | (apply nodup_mk; rfl) )))
    | (apply ret_mk [some 0, some 1, none]; (focus (iterate 2 (all_goals (repeat' (first | exact subL_nil | exact trivial | (intro Q h; refine h ?_; clear h Q) | refine And.intro ?_ ?_ | refine subL_cons ?_ ?_ | refine sub_tup ?_ | exact sub_refl_val _ _ | exact row_same rfl rfl rfl | exact sub_nil rfl | ((first | refine virt_mk ?_ ); first | with_reducible rfl | omega | ((try simp only [wS]); omega) | rfl) ))))); (any_goals (apply okIx_mk; rfl)))
    ))
  have hE : rofE l c = rsvE (sysN l c) (sysA l c) := by unfold rofE; rw [if_neg (not_not_intro h0)]
  rw [h0] at hsy
  by_cases h1 : rsvE (sysN l c) (sysA l c) = 0
  rotate_left
  · have hA : rofA l c = [] := by unfold rofA; rw [hE, if_neg h1]
    rw [hA, hE]
    generalize rsvE (sysN l c) (sysA l c) = w at *
    refine Runs.mk tabOK Try.call15 Try.func15 rfl Try.ntmps15 Try.results15 rfl ?_
    (repeat' (first
    | (intro Q h; refine h ?_; clear h Q)
    | (refine bcase_mk (fun hb => ?_) (fun hb => ?_) <;> (try simp only [nS, nT, eq_self, reduceCtorEq] at hb) <;> (try (exfalso; (omega); done)))
    | refine seq_go ?_
    | ((first | apply call_detx [some 0, some 1] (hsy) ); (focus ((iterate 2 (all_goals (repeat' (first | exact subL_nil | exact trivial | (intro Q h; refine h ?_; clear h Q) | refine And.intro ?_ ?_ | refine subL_cons ?_ ?_ | refine sub_agg ?_ | exact sub_sl rfl rfl rfl | exact sub_refl_val _ _ | exact row_same rfl rfl rfl )))))); (any_goals (first | (apply nodup_mk; rfl) )))
    | ((first | apply call1 (hbn) ); (focus (iterate 2 (all_goals (repeat' (first | exact subL_nil | exact trivial | (intro Q h; refine h ?_; clear h Q) | refine And.intro ?_ ?_ | refine subL_cons ?_ ?_ | exact sub_sl rfl rfl rfl | exact sub_refl_val _ _ | exact row_ren rfl rfl rfl ))))); (try (any_goals fail)))
    | (apply ret_mk [some 0, some 1, none]; (focus (iterate 2 (all_goals (repeat' (first | exact subL_nil | exact trivial | (intro Q h; refine h ?_; clear h Q) | refine And.intro ?_ ?_ | refine subL_cons ?_ ?_ | refine sub_tup ?_ | exact sub_refl_val _ _ | exact row_same rfl rfl rfl | exact sub_nil rfl | ((first | refine virt_mk ?_ ); first | with_reducible rfl | omega | ((try simp only [wS]); omega) | rfl) ))))); (any_goals (apply okIx_mk; rfl)))
    ))
  have hA : rofA l c = ivL l (rbdA (sysN l c) (sysA l c)) := by unfold rofA; rw [hE, if_pos h1]
  have hsq := rbdA_sq h1
  have hN : sysN l c = l.length + 1 := by unfold sysN; rw [if_pos h0]
  obtain ⟨z1, z2, z3, _⟩ := sys_zero h0
  rw [show (sysN l c).toNat = l.length + 1 by rw [hN]; omega] at hsq
  rw [h1] at hbn
  rw [hA, hE, h1]
  have hiS := ivP_snoc l (rbdA (sysN l c) (sysA l c))
  have hiL := ivP_len l (rbdA (sysN l c) (sysA l c))
  have hi0 : ivP l (rbdA (sysN l c) (sysA l c)) 0 = [] := rfl
  have hiv : ∀ i, ivI l (rbdA (sysN l c) (sysA l c)) i = ⟨loI l (rbdA (sysN l c) (sysA l c)) i, hiI l (rbdA (sysN l c) (sysA l c)) i⟩ := fun _ => rfl
  have hlo : ∀ i, (mg (rbdA (sysN l c) (sysA l c)) 0 (i + 1) = NN ∧ loI l (rbdA (sysN l c) (sysA l c)) i = -8000000000000000000) ∨ (¬ mg (rbdA (sysN l c) (sysA l c)) 0 (i + 1) = NN ∧ loI l (rbdA (sysN l c) (sysA l c)) i = IntKind.i64.wrap ((l.getD i en0).c - mg (rbdA (sysN l c) (sysA l c)) 0 (i + 1))) := fun i => by
    unfold loI; split
    · exact .inl ⟨by assumption, rfl⟩
    · exact .inr ⟨by assumption, rfl⟩
  have hhi : ∀ i, (mg (rbdA (sysN l c) (sysA l c)) (i + 1) 0 = NN ∧ hiI l (rbdA (sysN l c) (sysA l c)) i = 8000000000000000000) ∨ (¬ mg (rbdA (sysN l c) (sysA l c)) (i + 1) 0 = NN ∧ hiI l (rbdA (sysN l c) (sysA l c)) i = IntKind.i64.wrap ((l.getD i en0).c + mg (rbdA (sysN l c) (sysA l c)) (i + 1) 0)) := fun i => by
    unfold hiI; split
    · exact .inl ⟨by assumption, rfl⟩
    · exact .inr ⟨by assumption, rfl⟩
  rw [show ivL l (rbdA (sysN l c) (sysA l c)) = ivP l (rbdA (sysN l c) (sysA l c)) l.length from rfl]
  generalize rbdA (sysN l c) (sysA l c) = M at *
  generalize loI l M = LO at *
  generalize hiI l M = HI at *
  generalize ivI l M = IV at *
  generalize ivP l M = T at *
  rw [hsq.len] at hbn
  refine Runs.mk tabOK Try.call15 Try.func15 rfl Try.ntmps15 Try.results15 rfl ?_
  (repeat' (first
    | (intro Q h; refine h ?_; clear h Q)
    | (refine bcase_mk (fun hb => ?_) (fun hb => ?_) <;> (try simp only [nS, nT, eq_self, reduceCtorEq] at hb) <;> (try (exfalso; (omega); done)))
    | refine seq_go ?_
    | ((first | apply call_detx [some 0, some 1] (hsy) ); (focus ((iterate 2 (all_goals (repeat' (first | exact subL_nil | exact trivial | (intro Q h; refine h ?_; clear h Q) | refine And.intro ?_ ?_ | refine subL_cons ?_ ?_ | refine sub_agg ?_ | exact sub_sl rfl rfl rfl | exact sub_refl_val _ _ | exact row_same rfl rfl rfl )))))); (any_goals (first | (apply nodup_mk; rfl) )))
    | ((first | apply call1 (hbn) ); (focus (iterate 2 (all_goals (repeat' (first | exact subL_nil | exact trivial | (intro Q h; refine h ?_; clear h Q) | refine And.intro ?_ ?_ | refine subL_cons ?_ ?_ | exact sub_sl rfl rfl rfl | exact sub_refl_val _ _ | exact row_ren rfl rfl rfl ))))); (try (any_goals fail)))
    ))
  refine loop_inv (σ := Nat) (fun x => x ≤ l.length) (fun x => ⟨[(0, aL l cap), (9, .sl 2 1 0 (l.length + 1) none), (10, .sl 3 2 0 x none), (11, .val (.int .i64 x))], [gL l, gT c, fB (l.length + 1) M, vB true (T x)]⟩) (fun x => l.length - x) (0) ?_ ?_ ?_
  · omega
  · (apply le_mk [some 0, some 1, some 4, none]; (focus (iterate 2 (all_goals (repeat' (first | exact trivial | (intro Q h; refine h ?_; clear h Q) | refine And.intro ?_ ?_ | exact sub_sl rfl rfl rfl | exact sub_refl_val _ _ | exact row_same rfl rfl rfl | exact sub_nil rfl ))))); (any_goals (apply okIx_mk; rfl)))
    all_goals first
      | exact fam_ren rfl hsq.len rfl
      | (rw [hi0]; rfl)
      | fail
  rintro x hx
  have hTl := hiL x
  by_cases hxl : x < l.length
  · have hz : 0 + Int.toNat x = x := by omega
    have hz1 : 0 + Int.toNat (IntKind.i64.wrap ((x : Int) + 1)) = x + 1 := by rw [cwrap (by omega) (by omega)]; omega
    have hTs := hiS x
    rw [hiv] at hTs
    have hlo := hlo x
    have hhi := hhi x
    have hr0 : (M.getD (0 + Int.toNat 0) []).length = l.length + 1 := hsq.row 0 (by omega)
    have hr1 := hsq.row (x + 1) (by omega)
    have hml := hsq.len
    rw [← hz1] at hr1
    have hf0 := famF_fst intC 0 M (0 + Int.toNat 0)
    have hf1 := famF_fst intC 0 M (0 + Int.toNat (IntKind.i64.wrap ((x : Int) + 1)))
    rw [hr0] at hf0
    rw [hr1] at hf1
    have e1 : mg M 0 (x + 1) = (M.getD (0 + Int.toNat 0) []).getD (0 + Int.toNat (IntKind.i64.wrap ((x : Int) + 1))) 0 := by rw [hz1]; rfl
    have e2 : mg M (x + 1) 0 = (M.getD (0 + Int.toNat (IntKind.i64.wrap ((x : Int) + 1))) []).getD (0 + Int.toNat 0) 0 := by rw [hz1]; rfl
    rw [e1, show l.getD x en0 = l.getD (0 + Int.toNat x) en0 by rw [hz]] at hlo
    rw [e2, show l.getD x en0 = l.getD (0 + Int.toNat x) en0 by rw [hz]] at hhi
    generalize LO x = lo at *
    generalize HI x = hi at *
    rw [show NN = 4611686018427387904 from rfl] at hlo hhi
    by_cases q1 : (M.getD (0 + Int.toNat 0) []).getD (0 + Int.toNat (IntKind.i64.wrap ((x : Int) + 1))) 0 = 4611686018427387904 <;> by_cases q2 : (M.getD (0 + Int.toNat (IntKind.i64.wrap ((x : Int) + 1))) []).getD (0 + Int.toNat 0) 0 = 4611686018427387904
    · (repeat' (first
    | (intro Q h; refine h ?_; clear h Q)
    | (refine bcase_mk (fun hb => ?_) (fun hb => ?_) <;> (try simp only [nS, nT, eq_self, reduceCtorEq] at hb) <;> (try (exfalso; (omega); done)))
    | refine seq_go ?_
    | refine And.intro (by first | omega | ((try simp only [wS]); omega) | rfl | decide) ?_
    | (apply next_sub (Subtype.mk (x + 1) (by first | omega | (simp only; omega))); (focus (rw [hTs]; apply le_mk [some 0, some 1, some 2, some 8]; (focus (iterate 2 (all_goals (repeat' (first | exact fam_same rfl rfl rfl | exact trivial | (intro Q h; refine h ?_; clear h Q) | refine And.intro ?_ ?_ | exact sub_sl rfl rfl rfl | exact row_same rfl rfl rfl | ((first | refine sub_int ?_ | show (_ : Nat) = _); first | with_reducible rfl | omega | ((try simp only [wS]); omega) | rfl) | apply row_app1 | refine cells_succ ?_ ?_ | exact cell0 | with_reducible rfl | refine sub_int ?_ ))))); (any_goals (apply okIx_mk; rfl)))); (all_goals (try (first | (simp only; omega)))))
    ))
      all_goals first
        | (simp only []; omega)
        | (rw [List.length_append, hTl]; rfl)
        | fail
    · (repeat' (first
    | (intro Q h; refine h ?_; clear h Q)
    | (refine bcase_mk (fun hb => ?_) (fun hb => ?_) <;> (try simp only [nS, nT, eq_self, reduceCtorEq] at hb) <;> (try (exfalso; (omega); done)))
    | refine draw_mk (by decide +kernel) ?_
    | refine seq_go ?_
    | refine And.intro (by first | omega | ((try simp only [wS]); omega) | rfl | decide) ?_
    | (apply next_sub (Subtype.mk (x + 1) (by first | omega | (simp only; omega))); (focus (rw [hTs]; apply le_mk [some 0, some 1, some 2, some 9]; (focus (iterate 2 (all_goals (repeat' (first | exact fam_same rfl rfl rfl | exact trivial | (intro Q h; refine h ?_; clear h Q) | refine And.intro ?_ ?_ | exact sub_sl rfl rfl rfl | exact row_same rfl rfl rfl | ((first | refine sub_int ?_ | show (_ : Nat) = _); first | with_reducible rfl | omega | ((try simp only [wS]); omega) | rfl) | apply row_app1 | refine cells_succ ?_ ?_ | exact cell0 | with_reducible rfl | refine sub_int ?_ ))))); (any_goals (apply okIx_mk; rfl)))); (all_goals (try (first | (simp only; omega)))))
    ))
      all_goals first
        | (simp only []; omega)
        | (rw [List.length_append, hTl]; rfl)
        | fail
    · (repeat' (first
    | (intro Q h; refine h ?_; clear h Q)
    | (refine bcase_mk (fun hb => ?_) (fun hb => ?_) <;> (try simp only [nS, nT, eq_self, reduceCtorEq] at hb) <;> (try (exfalso; (omega); done)))
    | refine draw_mk (by decide +kernel) ?_
    | refine seq_go ?_
    | refine And.intro (by first | omega | ((try simp only [wS]); omega) | rfl | decide) ?_
    | (apply next_sub (Subtype.mk (x + 1) (by first | omega | (simp only; omega))); (focus (rw [hTs]; apply le_mk [some 0, some 1, some 2, some 9]; (focus (iterate 2 (all_goals (repeat' (first | exact fam_same rfl rfl rfl | exact trivial | (intro Q h; refine h ?_; clear h Q) | refine And.intro ?_ ?_ | exact sub_sl rfl rfl rfl | exact row_same rfl rfl rfl | ((first | refine sub_int ?_ | show (_ : Nat) = _); first | with_reducible rfl | omega | ((try simp only [wS]); omega) | rfl) | apply row_app1 | refine cells_succ ?_ ?_ | exact cell0 | with_reducible rfl | refine sub_int ?_ ))))); (any_goals (apply okIx_mk; rfl)))); (all_goals (try (first | (simp only; omega)))))
    ))
      all_goals first
        | (simp only []; omega)
        | (rw [List.length_append, hTl]; rfl)
        | fail
    · (repeat' (first
    | (intro Q h; refine h ?_; clear h Q)
    | (refine bcase_mk (fun hb => ?_) (fun hb => ?_) <;> (try simp only [nS, nT, eq_self, reduceCtorEq] at hb) <;> (try (exfalso; (omega); done)))
    | refine draw_mk (by decide +kernel) ?_
    | refine seq_go ?_
    | refine And.intro (by first | omega | ((try simp only [wS]); omega) | rfl | decide) ?_
    | (apply next_sub (Subtype.mk (x + 1) (by first | omega | (simp only; omega))); (focus (rw [hTs]; apply le_mk [some 0, some 1, some 2, some 10]; (focus (iterate 2 (all_goals (repeat' (first | exact fam_same rfl rfl rfl | exact trivial | (intro Q h; refine h ?_; clear h Q) | refine And.intro ?_ ?_ | exact sub_sl rfl rfl rfl | exact row_same rfl rfl rfl | ((first | refine sub_int ?_ | show (_ : Nat) = _); first | with_reducible rfl | omega | ((try simp only [wS]); omega) | rfl) | apply row_app1 | refine cells_succ ?_ ?_ | exact cell0 | with_reducible rfl | refine sub_int ?_ ))))); (any_goals (apply okIx_mk; rfl)))); (all_goals (try (first | (simp only; omega)))))
    ))
      all_goals first
        | (simp only []; omega)
        | (rw [List.length_append, hTl]; rfl)
        | fail
  · have hxx : l.length = x := by omega
    subst hxx
    (repeat' (first
    | (intro Q h; refine h ?_; clear h Q)
    | (refine bcase_mk (fun hb => ?_) (fun hb => ?_) <;> (try simp only [nS, nT, eq_self, reduceCtorEq] at hb) <;> (try (exfalso; (omega); done)))
    | refine seq_go ?_
    | (apply ret_mk [some 0, some 1, some 3]; (focus (iterate 2 (all_goals (repeat' (first | exact subL_nil | exact trivial | (intro Q h; refine h ?_; clear h Q) | refine And.intro ?_ ?_ | refine subL_cons ?_ ?_ | refine sub_tup ?_ | exact sub_refl_val _ _ | exact row_same rfl rfl rfl | ((first | refine sub_sl rfl rfl ?_ ); first | with_reducible rfl | omega | ((try simp only [wS]); omega) | rfl) ))))); (any_goals (apply okIx_mk; rfl)))
    ))
end Go.Vx.L53

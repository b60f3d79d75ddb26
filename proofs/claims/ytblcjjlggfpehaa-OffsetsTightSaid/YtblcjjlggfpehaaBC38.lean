/- Lemmas of a small executor for the model, and contracts of functions, used for the law that this claim proves. No condition. -/
import Derived.Test.YtblcjjlggfpehaaBC37
set_option linter.unusedSimpArgs false
set_option linter.unusedVariables false
set_option maxRecDepth 100000
namespace Go.Vx.L53
open Go Go.Proofs
def cycA (n : Int) (l : List Cn) : List Int := if cchk n l = 0 then cyK l n.toNat else []
def cycO (n : Int) (l : List Cn) : Bool := decide (cchk n l = 0) && cyc l n.toNat
theorem wtL_rg {l : List Cn} {n : Nat} (hl : allOK n l) : ∀ S : List Int, -(9007199254740992 * (S.length : Int)) ≤ wtL l S ∧ wtL l S ≤ 9007199254740992 * (S.length : Int)
  | [] => by simp [wtL]
  | i :: S => by
    have := wtL_rg hl S
    have hw : -9007199254740992 ≤ (l.getD i.toNat cn0).w ∧ (l.getD i.toNat cn0).w ≤ 9007199254740992 := by
      by_cases h : i.toNat < l.length
      · exact (hl _ (getD_mem l _ cn0 h)).2.2
      · rw [List.getD_eq_getElem?_getD, List.getElem?_eq_none (by omega)]; exact ⟨by decide, by decide⟩
    rw [wtL, List.length_cons]
    omega
theorem stN_len (l : List Cn) (p : List Int) : ∀ x, (stN l p x).length ≤ x
  | 0 => by simp [stN]
  | x + 1 => by
    have := stN_len l p x
    unfold stN
    split
    · simp [stP]; omega
    · simp [stP]; omega
theorem stN_mem {l : List Cn} {p : List Int} (hp : ∀ i ∈ p, 0 ≤ i ∧ i.toNat < l.length) : ∀ x, x ≤ p.length → ∀ i ∈ stN l p x, 0 ≤ i ∧ i.toNat < l.length
  | 0, _ => fun i hi => by cases hi
  | x + 1, hx => fun i hi => by
    have ih := stN_mem hp x (by omega)
    have h : ∀ i ∈ stP p x (stN l p x), 0 ≤ i ∧ i.toNat < l.length := fun i hi => by
      rcases List.mem_append.1 hi with hi | hi
      · exact ih i hi
      · obtain rfl := List.mem_singleton.1 hi
        exact hp _ (getD_mem p x 0 (by omega))
    unfold stN at hi
    split at hi
    · exact h i hi
    · exact h i (List.mem_of_mem_take hi)
theorem sc_succ (l : List Cn) (S : List Int) (v : Int) (k : Nat) : sc l S v (k + 1) = if (l.getD (S.getD k 0).toNat cn0).a = v then some k else sc l S v k := rfl
theorem row_drop {α : Type} {cells : α → List AV} [FlatC cells] {d : α} {ρ : Nat → Option Nat} {rw rw' : Bool} {t e n n' : Nat} {l : List α} {k : Nat} (h1 : (!rw || rw') = true) (hn : n' = n) :
    BSub ρ (.arr rw t e n (rowF cells d (l.drop k))) (.arr rw' t e n' fun i j => rowF cells d l (0 + k + i) j) := by
  have h : (fun i j => rowF cells d l (0 + k + i) j) = rowF cells d (l.drop k) := by
    funext i j
    simp only [rowF, List.getD_eq_getElem?_getD, List.getElem?_drop, Nat.zero_add]
  rw [h]; exact row_same h1 hn rfl
set_option maxHeartbeats 4000000 in
theorem cycle_ok (n : Int) (l : List Cn) (cap : Option Nat) (hl : l.length ≤ maxLen) :
    Runs Try.prog 41 [.val (.int .i64 n), aN l cap] [cB false l] (Det (.tup [.sl 1 1 0 (cycA n l).length none, .sb (cycO n l)]) [cB false l, iB true (cycA n l)]) := by
  have hck := cchk_ok n l cap hl
  by_cases h0 : cchk n l = 0
  rotate_left
  · have hA : cycA n l = [] := by unfold cycA; rw [if_neg h0]
    have hO : cycO n l = false := by unfold cycO; rw [decide_eq_false h0]; rfl
    rw [hA, hO]
    generalize cchk n l = w at *
    refine Runs.mk tabOK Try.call41 Try.func41 rfl Try.ntmps41 Try.results41 rfl ?_
    (repeat' (first
    | (intro Q h; refine h ?_; clear h Q)
    | (refine bcase_mk (fun hb => ?_) (fun hb => ?_) <;> (try simp only [nS, nT, eq_self, reduceCtorEq] at hb) <;> (try (exfalso; (omega); done)))
    | refine seq_go ?_
    | ((first | apply call1 (hck) ); (focus (iterate 2 (all_goals (repeat' (first | exact subL_nil | exact trivial | (intro Q h; refine h ?_; clear h Q) | refine And.intro ?_ ?_ | refine subL_cons ?_ ?_ | exact sub_sl rfl rfl rfl | exact sub_refl_val _ _ | exact row_same rfl rfl rfl ))))); (try (any_goals fail)))
    | (apply ret_mk [some 0, none]; (focus (iterate 2 (all_goals (repeat' (first | exact subL_nil | exact trivial | (intro Q h; refine h ?_; clear h Q) | refine And.intro ?_ ?_ | refine subL_cons ?_ ?_ | refine sub_tup ?_ | exact sub_sbl rfl | exact row_same rfl rfl rfl | exact sub_nil rfl | ((first | refine virt_mk ?_ ); first | with_reducible rfl | omega | ((try simp only [wS]); omega) | rfl) ))))); (any_goals (apply okIx_mk; rfl)))
    ))
  obtain ⟨n, rfl, hm, hl4, hok⟩ := cchk_zero h0
  have hex := explore_ok l cap n hm hl4 hok
  have hrg := endF_rg (byN l n (n - 1))
  have hc := endF_neg (byN l n (n - 1))
  rw [show chgL (byN l n (n - 1)) = cyc l n from rfl] at hc
  have hO : cycO n l = cyc l n := by unfold cycO; rw [decide_eq_true h0, Int.toNat_natCast]; rfl
  have hA : cycA n l = cyK l n := by unfold cycA; rw [if_pos h0, Int.toNat_natCast]
  rw [hA, hO]
  rw [h0] at hck
  cases hcy : cyc l n
  · have hK : cyK l n = [] := by unfold cyK; rw [hcy]; rfl
    rw [hK]
    rw [hcy] at hc
    have he : endF (byN l n (n - 1)) < 0 := hc.2 rfl
    generalize endF (byN l n (n - 1)) = e at *
    refine Runs.mk tabOK Try.call41 Try.func41 rfl Try.ntmps41 Try.results41 rfl ?_
    (repeat' (first
    | (intro Q h; refine h ?_; clear h Q)
    | (refine bcase_mk (fun hb => ?_) (fun hb => ?_) <;> (try simp only [nS, nT, eq_self, reduceCtorEq] at hb) <;> (try (exfalso; (omega); done)))
    | refine seq_go ?_
    | ((first | apply call1 (hck) ); (focus (iterate 2 (all_goals (repeat' (first | exact subL_nil | exact trivial | (intro Q h; refine h ?_; clear h Q) | refine And.intro ?_ ?_ | refine subL_cons ?_ ?_ | exact sub_sl rfl rfl rfl | exact sub_refl_val _ _ | exact row_same rfl rfl rfl ))))); (try (any_goals fail)))
    | ((first | apply call1 (hex) ); (focus (iterate 2 (all_goals (repeat' (first | exact subL_nil | exact trivial | (intro Q h; refine h ?_; clear h Q) | refine And.intro ?_ ?_ | refine subL_cons ?_ ?_ | exact sub_sl rfl rfl rfl | exact sub_refl_val _ _ | exact row_same rfl rfl rfl ))))); (try (any_goals fail)))
    | (apply ret_mk [some 0, none]; (focus (iterate 2 (all_goals (repeat' (first | exact subL_nil | exact trivial | (intro Q h; refine h ?_; clear h Q) | refine And.intro ?_ ?_ | refine subL_cons ?_ ?_ | refine sub_tup ?_ | exact sub_sbl rfl | exact row_same rfl rfl rfl | exact sub_nil rfl | ((first | refine virt_mk ?_ ); first | with_reducible rfl | omega | ((try simp only [wS]); omega) | rfl) ))))); (any_goals (apply okIx_mk; rfl)))
    ))
  have hpa := path_ok l cap n hm hl4 hok hcy
  obtain ⟨_, _, hch, _⟩ := pt_inv hm.1 hok hcy n (Nat.le_refl _)
  have hpm := Ch_mem hch
  have hpl : (pth l n).length = n := ptN_len l n n
  rw [show (ptN l n n).2 = pth l n from rfl] at hpm
  have hK : cyK l n = cyF l (pth l n) n 0 := by unfold cyK; rw [if_pos hcy]
  have hKne := (cyK_ok hm.1 hok hcy).1
  rw [hcy] at hc
  have he : ¬ endF (byN l n (n - 1)) < 0 := fun h => by cases hc.1 h
  clear hch
  generalize endF (byN l n (n - 1)) = e at *
  generalize cyK l n = K at *
  generalize pth l n = P at *
  refine Runs.mk tabOK Try.call41 Try.func41 rfl Try.ntmps41 Try.results41 rfl ?_
  (repeat' (first
    | (intro Q h; refine h ?_; clear h Q)
    | (refine bcase_mk (fun hb => ?_) (fun hb => ?_) <;> (try simp only [nS, nT, eq_self, reduceCtorEq] at hb) <;> (try (exfalso; (omega); done)))
    | refine seq_go ?_
    | ((first | apply call1 (hck) ); (focus (iterate 2 (all_goals (repeat' (first | exact subL_nil | exact trivial | (intro Q h; refine h ?_; clear h Q) | refine And.intro ?_ ?_ | refine subL_cons ?_ ?_ | exact sub_sl rfl rfl rfl | exact sub_refl_val _ _ | exact row_same rfl rfl rfl ))))); (try (any_goals fail)))
    | ((first | apply call1 (hex) ); (focus (iterate 2 (all_goals (repeat' (first | exact subL_nil | exact trivial | (intro Q h; refine h ?_; clear h Q) | refine And.intro ?_ ?_ | refine subL_cons ?_ ?_ | exact sub_sl rfl rfl rfl | exact sub_refl_val _ _ | exact row_same rfl rfl rfl ))))); (try (any_goals fail)))
    | ((first | apply call_detx [some 0, some 1, some 2] (hpa) ); (focus ((iterate 2 (all_goals (repeat' (first | exact fam_ren rfl rfl rfl | exact subL_nil | exact trivial | (intro Q h; refine h ?_; clear h Q) | refine And.intro ?_ ?_ | refine subL_cons ?_ ?_ | refine sub_agg ?_ | exact sub_sl rfl rfl rfl | exact sub_refl_val _ _ | exact row_same rfl rfl rfl | exact row_ren rfl rfl rfl )))))); (any_goals (first | (apply nodup_mk; rfl) )))
    ))
  refine loop_inv (σ := Nat) (fun x => x ≤ n ∧ K = cyF l P (n - x) x) (fun x => ⟨[(1, aN l cap), (7, .sl 2 1 0 (stN l P x).length none), (8, .val (.slice none 0 0)), (25, .sl 1 1 0 n none), (26, .val (.int .i64 n)), (27, .val (.int .i64 x))], [cB false l, iB true P, iB true (stN l P x)]⟩) (fun x => n - x) (0) ?_ ?_ ?_
  · exact ⟨by omega, hK⟩
  · (apply le_mk [some 0, some 4, none]; (focus (iterate 2 (all_goals (repeat' (first | exact trivial | (intro Q h; refine h ?_; clear h Q) | refine And.intro ?_ ?_ | exact sub_sl rfl rfl rfl | exact sub_refl_val _ _ | exact row_same rfl rfl rfl | exact row_ren rfl rfl rfl | exact sub_nil rfl | ((first | refine virt_mk ?_ ); first | with_reducible rfl | omega | ((try simp only [wS]); omega) | rfl) ))))); (any_goals (apply okIx_mk; rfl)))
  rintro r ⟨hr, hKr⟩
  have hSl := stN_len l P r
  have hSm := stN_mem hpm r (by omega)
  by_cases hrn : r < n
  · have hz : 0 + Int.toNat (r : Int) = r := by omega
    have hpr := hpm _ (getD_mem P r 0 (by omega))
    have hT : stP P r (stN l P r) = stN l P r ++ [P.getD (0 + Int.toNat (r : Int)) 0] := by rw [hz]; rfl
    have hTm : ∀ i ∈ stP P r (stN l P r), 0 ≤ i ∧ i.toNat < l.length := fun i hi => by
      rcases List.mem_append.1 hi with hi | hi
      · exact hSm i hi
      · obtain rfl := List.mem_singleton.1 hi
        exact hpr
    have hTl : (stP P r (stN l P r)).length = (stN l P r).length + 1 := by simp [stP]
    have hsc : scP l P r (stN l P r) = sc l (stP P r (stN l P r)) (l.getD (0 + (P.getD (0 + Int.toNat (r : Int)) 0).toNat) cn0).b (stP P r (stN l P r)).length := by rw [hz, Nat.zero_add]; rfl
    have hS1 : stN l P (r + 1) = match scP l P r (stN l P r) with
      | none => stP P r (stN l P r)
      | some k => (stP P r (stN l P r)).take k := rfl
    rw [show n - r = (n - (r + 1)) + 1 by omega] at hKr
    unfold cyF at hKr
    rw [hsc] at hKr hS1
    rw [← hz] at hpr
    have hpb : (P.getD (0 + Int.toNat (r : Int)) 0) ≥ 0 := hpr.1
    generalize stN l P r = S at *
    generalize hTT : stP P r S = T at *
    (repeat' (first
    | (intro Q h; refine h ?_; clear h Q)
    | (refine bcase_mk (fun hb => ?_) (fun hb => ?_) <;> (try simp only [nS, nT, eq_self, reduceCtorEq] at hb) <;> (try (exfalso; (omega); done)))
    | refine seq_go ?_
    | refine And.intro (by first | omega | ((try simp only [wS]); omega) | rfl | decide) ?_
    ))
    refine loop_inv (σ := Nat) (fun x => x ≤ T.length ∧ sc l T (l.getD (0 + (P.getD (0 + Int.toNat (r : Int)) 0).toNat) cn0).b T.length = sc l T (l.getD (0 + (P.getD (0 + Int.toNat (r : Int)) 0).toNat) cn0).b x) (fun x => ⟨[(1, aN l cap), (7, .sl 2 1 0 T.length none), (8, .val (.slice none 0 0)), (10, .val (.int .i64 (P.getD (0 + Int.toNat (r : Int)) 0))), (11, .val (.int .i64 (wtL l (T.drop x)))), (12, .val (.int .i64 ((x : Int) - 1))), (25, .sl 1 1 0 n none), (26, .val (.int .i64 n)), (27, .val (.int .i64 r))], [cB false l, iB true P, iB true T]⟩) (fun x => x) (T.length) ?_ ?_ ?_
    · exact ⟨Nat.le_refl _, rfl⟩
    · rw [hT]
      (apply le_mk [some 0, some 1, some _]; (focus (iterate 2 (all_goals (repeat' (first | exact trivial | (intro Q h; refine h ?_; clear h Q) | refine And.intro ?_ ?_ | exact sub_sl rfl rfl rfl | exact sub_refl_val _ _ | exact row_same rfl rfl rfl | ((first | refine sub_int ?_ | refine sub_sl rfl rfl ?_ | show (_ : Nat) = _); first | with_reducible rfl | omega | ((try simp only [wS]); omega) | rfl) | apply row_app1 | refine cells_succ ?_ ?_ | exact cell0 | with_reducible rfl | refine sub_int ?_ | refine sub_sl rfl rfl ?_ ))))); (any_goals (apply okIx_mk; rfl)))
      all_goals first
        | (simp; done)
        | (simp [wtL]; done)
        | fail
    rintro m ⟨hm1, hm2⟩
    by_cases hm0 : 0 < m
    · obtain ⟨j, rfl⟩ : ∃ j, m = j + 1 := ⟨m - 1, by omega⟩
      have e1 : ((j + 1 : Nat) : Int) - 1 = j := by omega
      rw [e1]
      have hzj : 0 + Int.toNat (j : Int) = j := by omega
      have hj := hTm _ (getD_mem T j 0 (by omega))
      obtain ⟨_, hd⟩ := take_split (S := T) (k := j) (by omega)
      have hw := wtL_rg hok (T.drop (j + 1))
      have hw2 := wtL_rg hok (T.drop j)
      have hwd : wtL l (T.drop j) = wtL l (T.drop (j + 1)) + (l.getD (0 + (T.getD (0 + Int.toNat (j : Int)) 0).toNat) cn0).w := by rw [hd, wtL, hzj, Nat.zero_add]; omega
      rw [List.length_drop] at hw hw2
      have htk : (T.take j).length = j := by rw [List.length_take]; omega
      have htd : (T.drop j).length = T.length - j := List.length_drop
      rw [sc_succ l T _ j] at hm2
      rw [← hzj] at hj
      have hw1 := (hok _ (getD_mem l _ cn0 hj.2)).2.2
      rw [← Nat.zero_add (T.getD (0 + Int.toNat (j : Int)) 0).toNat] at hw1
      have hww : IntKind.i64.wrap (wtL l (T.drop (j + 1)) + (l.getD (0 + (T.getD (0 + Int.toNat (j : Int)) 0).toNat) cn0).w) = wtL l (T.drop j) := by
        rw [cwrap (by omega) (by omega)]; exact hwd.symm
      have hno : ¬ (l.getD (0 + (T.getD (0 + Int.toNat (j : Int)) 0).toNat) cn0).a = (l.getD (0 + (P.getD (0 + Int.toNat (r : Int)) 0).toNat) cn0).b → sc l T (l.getD (0 + (P.getD (0 + Int.toNat (r : Int)) 0).toNat) cn0).b T.length = sc l T (l.getD (0 + (P.getD (0 + Int.toNat (r : Int)) 0).toNat) cn0).b j := fun h => by
        rw [hzj] at h
        rw [hm2, if_neg (fun g => h (by simp only [Nat.zero_add] at g ⊢; exact g))]
      have hyes : (l.getD (0 + (T.getD (0 + Int.toNat (j : Int)) 0).toNat) cn0).a = (l.getD (0 + (P.getD (0 + Int.toNat (r : Int)) 0).toNat) cn0).b → (wtL l (T.drop j) < 0 → K = T.drop j) ∧ (¬ wtL l (T.drop j) < 0 → K = cyF l P (n - (r + 1)) (r + 1)) ∧ stN l P (r + 1) = T.take j := fun h => by
        rw [hzj] at h
        rw [if_pos (by simp only [Nat.zero_add] at h ⊢; exact h)] at hm2
        rw [hm2] at hKr hS1
        simp only at hKr hS1
        exact ⟨fun g => by rw [hKr, if_pos g], fun g => by rw [hKr, if_neg g], hS1⟩
      clear hKr hS1 hm2
      (repeat' (first
    | (intro Q h; refine h ?_; clear h Q)
    | (refine bcase_mk (fun hb => ?_) (fun hb => ?_) <;> (try simp only [nS, nT, eq_self, reduceCtorEq] at hb) <;> (try (exfalso; (omega); done)))
    | refine draw_mk (by decide +kernel) ?_
    | refine seq_go ?_
    | refine And.intro (by first | omega | ((try simp only [wS]); omega) | rfl | decide) ?_
    | (apply next_sub (Subtype.mk j ⟨by omega, hno (by assumption)⟩); (focus (skip; apply le_mk [some 0, some 1, some 2]; (focus (iterate 2 (all_goals (repeat' (first | exact trivial | (intro Q h; refine h ?_; clear h Q) | refine And.intro ?_ ?_ | exact sub_sl rfl rfl rfl | exact sub_refl_val _ _ | exact row_same rfl rfl rfl | ((first | refine sub_int ?_ ); first | with_reducible rfl | omega | ((try simp only [wS]); omega) | rfl) ))))); (any_goals (apply okIx_mk; rfl)))); (all_goals (try (first | (simp only; omega)))))
    | ((rw [(hyes (by assumption)).1 (by omega)]); (apply ret_mk [some 0, some _]; (focus (iterate 2 (all_goals (repeat' (first | exact subL_nil | exact trivial | (intro Q h; refine h ?_; clear h Q) | refine And.intro ?_ ?_ | refine subL_cons ?_ ?_ | refine sub_tup ?_ | exact row_same rfl rfl rfl | ((first | refine sub_sl rfl rfl ?_ ); first | with_reducible rfl | omega | ((try simp only [wS]); omega) | rfl) | refine sub_sb ?_ ))))); (any_goals (apply okIx_mk; rfl))))
    ))
      all_goals first
        | exact row_drop rfl (by omega)
        | (simp only [decide_eq_true_eq]; omega)
        | skip
      have g := hyes (by assumption)
      have g2 := g.2.1 (by omega)
      have g3 := g.2.2
      apply next_sub (Subtype.mk (r + 1) ⟨by omega, g2⟩)
      · rw [g3]
        apply le_mk [some 0, some 1, some 2]; (focus (iterate 2 (all_goals (repeat' (first | exact row_pre rfl ⟨_, (List.take_append_drop _ _).symm⟩ rfl (by rw [List.length_take]; omega) | exact trivial | (intro Q h; refine h ?_; clear h Q) | refine And.intro ?_ ?_ | exact sub_sl rfl rfl rfl | exact sub_refl_val _ _ | exact row_same rfl rfl rfl | ((first | refine sub_int ?_ | refine sub_sl rfl rfl ?_ ); first | with_reducible rfl | omega | ((try simp only [wS]); omega) | rfl) ))))); (any_goals (apply okIx_mk; rfl))
      · show n - (r + 1) < n - r
        omega
    · have hm0 : m = 0 := by omega
      subst hm0
      rw [hm2] at hKr hS1
      simp only [sc] at hKr hS1
      (repeat' (first
    | (intro Q h; refine h ?_; clear h Q)
    | (refine bcase_mk (fun hb => ?_) (fun hb => ?_) <;> (try simp only [nS, nT, eq_self, reduceCtorEq] at hb) <;> (try (exfalso; (omega); done)))
    | refine seq_go ?_
    | (apply next_sub (Subtype.mk (r + 1) ⟨by omega, hKr⟩); (focus (rw [hS1]; apply le_mk [some 0, some 1, some 2]; (focus (iterate 2 (all_goals (repeat' (first | exact trivial | (intro Q h; refine h ?_; clear h Q) | refine And.intro ?_ ?_ | exact sub_sl rfl rfl rfl | exact sub_refl_val _ _ | exact row_same rfl rfl rfl | ((first | refine sub_int ?_ ); first | with_reducible rfl | omega | ((try simp only [wS]); omega) | rfl) ))))); (any_goals (apply okIx_mk; rfl)))); (all_goals (try (first | (simp only; omega)))))
    ))
  · have hrr : r = n := by omega
    subst hrr
    rw [Nat.sub_self] at hKr
    exact absurd hKr hKne
end Go.Vx.L53

/- Lemmas of a small executor for the model, and contracts of functions, used for the law that this claim proves. No condition. -/
import Derived.Test.YtblcjjlggfpehaaBC19
set_option linter.unusedSimpArgs false
set_option linter.unusedVariables false
set_option maxRecDepth 100000
namespace Go.Vx.L53
open Go Go.Proofs
abbrev r4 (a : Int) : Prop := -4000000000000000000 ≤ a ∧ a ≤ 4000000000000000000
abbrev rw53 (w : Int) : Prop := -9007199254740992 ≤ w ∧ w ≤ 9007199254740992
theorem exceeds_ok (a b w : Int) (ha : r4 a) (hb0 : r4 b) (hw : rw53 w) : Runs Try.prog 58 [.val (.int .i64 a), .val (.int .i64 b), .val (.int .i64 w)] [] (Det (.sb (decide (w < b - a))) []) := by
  have h1 : IntKind.i64.wrap (b - a) = b - a := cwrap (by omega) (by omega)
  have h2 : ∀ q : Bool, (q = true ↔ w < b - a) → q = decide (w < b - a) := fun q h => by rw [Bool.eq_iff_iff, h, decide_eq_true_eq]
  generalize decide (w < b - a) = z at *
  refine Runs.mk tabOK Try.call58 Try.func58 rfl Try.ntmps58 Try.results58 rfl ?_
  (repeat' (first
    | (intro Q h; refine h ?_; clear h Q)
    | (refine bcase_mk (fun hb => ?_) (fun hb => ?_) <;> (try simp only [nS, nT, eq_self, reduceCtorEq] at hb) <;> (try (exfalso; (omega); done)))
    | refine seq_go ?_
    | (apply ret_mk []; (focus (iterate 2 (all_goals (repeat' (first | exact trivial | refine And.intro ?_ ?_ | refine sub_sb ?_ ))))); (any_goals (apply okIx_mk; rfl)))
    ))
  all_goals (refine h2 _ ?_; (try simp only [decide_eq_decide, h1] at *); (try simp only [decide_eq_true_eq]); (try omega))
theorem within_ok (a b w : Int) (ha : r4 a) (hb0 : r4 b) (hw : rw53 w) : Runs Try.prog 59 [.val (.int .i64 a), .val (.int .i64 b), .val (.int .i64 w)] [] (Det (.sb (decide (b - a ≤ w))) []) := by
  have h2 : ∀ q : Bool, (q = true ↔ b - a ≤ w) → q = decide (b - a ≤ w) := fun q h => by rw [Bool.eq_iff_iff, h, decide_eq_true_eq]
  generalize decide (b - a ≤ w) = z at *
  have ea : IntKind.u64.wrap a = a % 18446744073709551616 := uw a
  have eb : IntKind.u64.wrap b = b % 18446744073709551616 := uw b
  have ew : IntKind.u64.wrap w = w % 18446744073709551616 := uw w
  refine Runs.mk tabOK Try.call59 Try.func59 rfl Try.ntmps59 Try.results59 rfl ?_
  (repeat' (first
    | (intro Q h; refine h ?_; clear h Q)
    | (refine bcase_mk (fun hb => ?_) (fun hb => ?_) <;> (try simp only [nS, nT, eq_self, reduceCtorEq] at hb) <;> (try (exfalso; (omega); done)))
    | refine seq_go ?_
    | (apply ret_mk []; (focus (iterate 2 (all_goals (repeat' (first | exact trivial | refine And.intro ?_ ?_ | refine sub_sb ?_ | refine sub_sbl ?_ ))))); (any_goals (apply okIx_mk; rfl)))
    ))
  all_goals (refine h2 _ ?_; (try simp only [uw, decide_eq_true_eq, true_iff, Bool.false_eq_true, false_iff]); omega)
def okC (x : List Int) (c : Cn) : Prop := (0 ≤ c.a ∧ c.a < x.length) ∧ (0 ≤ c.b ∧ c.b < x.length) ∧ x.getD c.b.toNat 0 - x.getD c.a.toNat 0 ≤ c.w
instance (x : List Int) (c : Cn) : Decidable (okC x c) := inferInstanceAs (Decidable (_ ∧ _))
def allC (l : List Cn) (x : List Int) : Prop := ∀ c ∈ l, okC x c
instance (l : List Cn) (x : List Int) : Decidable (allC l x) := inferInstanceAs (Decidable (∀ c ∈ l, _))
/-- Do values satisfy constraints? -/
def hldB (l : List Cn) (x : List Int) : Bool := decide (allC l x)
theorem allC_snoc {l : List Cn} {x : List Int} {z : Nat} (hz : z < l.length) (h : allC (l.take z) x) (h1 : okC x (l.getD z cn0)) : allC (l.take (z + 1)) x := fun y hy => by
  rw [take_snoc l z cn0 hz, List.mem_append, List.mem_singleton] at hy
  rcases hy with hy | rfl
  · exact h y hy
  · exact h1
set_option maxHeartbeats 2000000 in
theorem holds_ok (l : List Cn) (cap : Option Nat) (x : List Int) (cap2 : Option Nat) (hl : l.length ≤ maxLen) (hxl : x.length ≤ maxLen) (hx : ∀ i, r4 (x.getD i 0)) (hw : ∀ c ∈ l, rw53 c.w) :
    Runs Try.prog 39 [aN l cap, .sl 1 1 0 x.length cap2] [cB false l, iB false x] (Det (.sb (hldB l x)) [cB false l, iB false x]) := by
  have hmx : maxLen = 9223372036854775807 := by decide
  refine Runs.mk tabOK Try.call39 Try.func39 rfl Try.ntmps39 Try.results39 rfl ?_
  (repeat' (first
    | (intro Q h; refine h ?_; clear h Q)
    | refine seq_go ?_
    ))
  generalize hX : x = X at *
  refine loop_inv (σ := Nat) (fun x => x ≤ l.length ∧ allC (l.take x) X) (fun x => ⟨[(1, .sl 1 1 0 X.length cap2), (7, aN l cap), (8, .val (.int .i64 l.length)), (9, .val (.int .i64 x))], [cB false l, iB false X]⟩) (fun x => l.length - x) (0) ?_ ?_ ?_
  · exact ⟨by omega, fun c hc => by simp at hc⟩
  · (apply le_mk [some 0, some 1]; (focus (iterate 2 (all_goals (repeat' (first | exact trivial | (intro Q h; refine h ?_; clear h Q) | refine And.intro ?_ ?_ | exact sub_sl rfl rfl rfl | exact sub_refl_val _ _ | exact row_same rfl rfl rfl ))))); (any_goals (apply okIx_mk; rfl)))
  rintro z ⟨hz, ht⟩
  by_cases hzl : z < l.length
  · have hzz : 0 + Int.toNat z = z := by omega
    have hno : ¬ okC X (l.getD z cn0) → hldB l X = false := fun h => decide_eq_false fun h2 => h (h2 _ (getD_mem l z cn0 hzl))
    have hsn := allC_snoc hzl ht
    have hxa := hx (0 + (l.getD (0 + Int.toNat z) cn0).a.toNat)
    have hxb := hx (0 + (l.getD (0 + Int.toNat z) cn0).b.toNat)
    have hcw := hw (l.getD (0 + Int.toNat z) cn0) (by rw [hzz]; exact getD_mem l z cn0 hzl)
    have hex := exceeds_ok _ _ _ hxa hxb hcw
    have hok : okC X (l.getD z cn0) ↔ ((0 ≤ (l.getD (0 + Int.toNat z) cn0).a ∧ (l.getD (0 + Int.toNat z) cn0).a < X.length) ∧ (0 ≤ (l.getD (0 + Int.toNat z) cn0).b ∧ (l.getD (0 + Int.toNat z) cn0).b < X.length) ∧ X.getD (0 + (l.getD (0 + Int.toNat z) cn0).b.toNat) 0 - X.getD (0 + (l.getD (0 + Int.toNat z) cn0).a.toNat) 0 ≤ (l.getD (0 + Int.toNat z) cn0).w) := by
      rw [hzz, Nat.zero_add, Nat.zero_add]; rfl
    by_cases hc : okC X (l.getD z cn0)
    · have hsn := hsn hc
      have hc := hok.1 hc
      rw [decide_eq_false (by omega)] at hex
      (repeat' (first
    | (intro Q h; refine h ?_; clear h Q)
    | (with_reducible refine bcase_false ?_)
    | (refine bcase_mk (fun hb => ?_) (fun hb => ?_) <;> (try simp only [nS, nT, eq_self, reduceCtorEq] at hb) <;> (try (exfalso; (omega); done)))
    | refine draw_mk (by decide +kernel) ?_
    | refine seq_go ?_
    | refine And.intro (by first | omega | ((try simp only [wS]); omega) | rfl | decide) ?_
    | ((first | apply calld0 (hex)); (focus ((iterate 2 (all_goals (repeat' (first | exact subL_nil | refine subL_cons ?_ ?_ | exact sub_refl_val _ _ )))); done)))
    | (apply next_sub (Subtype.mk (z + 1) _); (focus (apply le_mk [some 0, some 1]; (focus (iterate 2 (all_goals (repeat' (first | exact trivial | (intro Q h; refine h ?_; clear h Q) | refine And.intro ?_ ?_ | exact sub_sl rfl rfl rfl | exact sub_refl_val _ _ | exact row_same rfl rfl rfl | ((first | refine sub_int ?_ ); first | with_reducible rfl | omega | ((try simp only [wS]); omega) | rfl) ))))); (any_goals (apply okIx_mk; rfl)))); (all_goals (try (first | (simp only; omega)))))
    | omega))
      all_goals first | exact hsn | fail
    · have hno := hno hc
      rw [hok] at hc
      rw [hno]
      have hex2 : ((0 ≤ (l.getD (0 + Int.toNat z) cn0).a ∧ (l.getD (0 + Int.toNat z) cn0).a < X.length) ∧ (0 ≤ (l.getD (0 + Int.toNat z) cn0).b ∧ (l.getD (0 + Int.toNat z) cn0).b < X.length)) → Runs Try.prog 58 [.val (.int .i64 (X.getD (0 + (l.getD (0 + Int.toNat z) cn0).a.toNat) 0)), .val (.int .i64 (X.getD (0 + (l.getD (0 + Int.toNat z) cn0).b.toNat) 0)), .val (.int .i64 (l.getD (0 + Int.toNat z) cn0).w)] [] (Det (.sb true) []) := fun h => by
        rw [decide_eq_true (by omega)] at hex
        exact hex
      (repeat' (first
    | (intro Q h; refine h ?_; clear h Q)
    | (with_reducible refine bcase_true ?_)
    | (refine bcase_mk (fun hb => ?_) (fun hb => ?_) <;> (try simp only [nS, nT, eq_self, reduceCtorEq] at hb) <;> (try (exfalso; (omega); done)))
    | refine draw_mk (by decide +kernel) ?_
    | refine seq_go ?_
    | refine And.intro (by first | omega | ((try simp only [wS]); omega) | rfl | decide) ?_
    | ((first | apply calld0 (hex2 (by omega))); (focus ((iterate 2 (all_goals (repeat' (first | exact subL_nil | refine subL_cons ?_ ?_ | exact sub_refl_val _ _ )))); done)))
    | (apply ret_mk [some 0, some 1]; (focus (iterate 2 (all_goals (repeat' (first | exact trivial | (intro Q h; refine h ?_; clear h Q) | refine And.intro ?_ ?_ | exact sub_sbl rfl | exact row_same rfl rfl rfl ))))); (any_goals (apply okIx_mk; rfl)))
    ))
  · have hzl : l.length = z := by omega
    subst hzl
    rw [List.take_length] at ht
    have hyes : hldB l X = true := decide_eq_true ht
    rw [hyes]
    (repeat' (first
    | (intro Q h; refine h ?_; clear h Q)
    | (refine bcase_mk (fun hb => ?_) (fun hb => ?_) <;> (try simp only [nS, nT, eq_self, reduceCtorEq] at hb) <;> (try (exfalso; (omega); done)))
    | (apply ret_mk [some 0, some 1]; (focus (iterate 2 (all_goals (repeat' (first | exact trivial | (intro Q h; refine h ?_; clear h Q) | refine And.intro ?_ ?_ | exact sub_sbl rfl | exact row_same rfl rfl rfl ))))); (any_goals (apply okIx_mk; rfl)))
    ))
set_option maxHeartbeats 2000000 in
theorem rholds_ok (l : List Cn) (cap : Option Nat) (x : List Int) (cap2 : Option Nat) (hl : l.length ≤ maxLen) (hxl : x.length ≤ maxLen) (hx : ∀ i, r4 (x.getD i 0)) (hw : ∀ c ∈ l, rw53 c.w) :
    Runs Try.prog 40 [aN l cap, .sl 1 1 0 x.length cap2] [cB false l, iB false x] (Det (.sb (hldB l x)) [cB false l, iB false x]) := by
  have hmx : maxLen = 9223372036854775807 := by decide
  refine Runs.mk tabOK Try.call40 Try.func40 rfl Try.ntmps40 Try.results40 rfl ?_
  (repeat' (first
    | (intro Q h; refine h ?_; clear h Q)
    | refine seq_go ?_
    ))
  generalize hX : x = X at *
  refine loop_inv (σ := Nat) (fun x => x ≤ l.length ∧ allC (l.take x) X) (fun x => ⟨[(0, aN l cap), (1, .sl 1 1 0 X.length cap2), (5, .val (.int .i64 x))], [cB false l, iB false X]⟩) (fun x => l.length - x) (0) ?_ ?_ ?_
  · exact ⟨by omega, fun c hc => by simp at hc⟩
  · (apply le_mk [some 0, some 1]; (focus (iterate 2 (all_goals (repeat' (first | exact trivial | (intro Q h; refine h ?_; clear h Q) | refine And.intro ?_ ?_ | exact sub_sl rfl rfl rfl | exact sub_refl_val _ _ | exact row_same rfl rfl rfl ))))); (any_goals (apply okIx_mk; rfl)))
  rintro z ⟨hz, ht⟩
  by_cases hzl : z < l.length
  · have hzz : 0 + Int.toNat z = z := by omega
    have hno : ¬ okC X (l.getD z cn0) → hldB l X = false := fun h => decide_eq_false fun h2 => h (h2 _ (getD_mem l z cn0 hzl))
    have hsn := allC_snoc hzl ht
    have hxa := hx (0 + (l.getD (0 + Int.toNat z) cn0).a.toNat)
    have hxb := hx (0 + (l.getD (0 + Int.toNat z) cn0).b.toNat)
    have hcw := hw (l.getD (0 + Int.toNat z) cn0) (by rw [hzz]; exact getD_mem l z cn0 hzl)
    have hex := within_ok _ _ _ hxa hxb hcw
    have hok : okC X (l.getD z cn0) ↔ ((0 ≤ (l.getD (0 + Int.toNat z) cn0).a ∧ (l.getD (0 + Int.toNat z) cn0).a < X.length) ∧ (0 ≤ (l.getD (0 + Int.toNat z) cn0).b ∧ (l.getD (0 + Int.toNat z) cn0).b < X.length) ∧ X.getD (0 + (l.getD (0 + Int.toNat z) cn0).b.toNat) 0 - X.getD (0 + (l.getD (0 + Int.toNat z) cn0).a.toNat) 0 ≤ (l.getD (0 + Int.toNat z) cn0).w) := by
      rw [hzz, Nat.zero_add, Nat.zero_add]; rfl
    by_cases hc : okC X (l.getD z cn0)
    · have hsn := hsn hc
      have hc := hok.1 hc
      rw [decide_eq_true (by omega)] at hex
      (repeat' (first
    | (intro Q h; refine h ?_; clear h Q)
    | (with_reducible refine bcase_true ?_)
    | (refine bcase_mk (fun hb => ?_) (fun hb => ?_) <;> (try simp only [nS, nT, eq_self, reduceCtorEq] at hb) <;> (try (exfalso; (omega); done)))
    | refine draw_mk (by decide +kernel) ?_
    | refine seq_go ?_
    | refine And.intro (by first | omega | ((try simp only [wS]); omega) | rfl | decide) ?_
    | ((first | apply calld0 (hex)); (focus ((iterate 2 (all_goals (repeat' (first | exact subL_nil | refine subL_cons ?_ ?_ | exact sub_refl_val _ _ )))); done)))
    | (apply next_sub (Subtype.mk (z + 1) _); (focus (apply le_mk [some 0, some 1]; (focus (iterate 2 (all_goals (repeat' (first | exact trivial | (intro Q h; refine h ?_; clear h Q) | refine And.intro ?_ ?_ | exact sub_sl rfl rfl rfl | exact row_same rfl rfl rfl | ((first | refine sub_int ?_ ); first | with_reducible rfl | omega | ((try simp only [wS]); omega) | rfl) ))))); (any_goals (apply okIx_mk; rfl)))); (all_goals (try (first | (simp only; omega)))))
    | omega))
      all_goals first | exact hsn | fail
    · have hno := hno hc
      rw [hok] at hc
      rw [hno]
      have hex2 : ((0 ≤ (l.getD (0 + Int.toNat z) cn0).a ∧ (l.getD (0 + Int.toNat z) cn0).a < X.length) ∧ (0 ≤ (l.getD (0 + Int.toNat z) cn0).b ∧ (l.getD (0 + Int.toNat z) cn0).b < X.length)) → Runs Try.prog 59 [.val (.int .i64 (X.getD (0 + (l.getD (0 + Int.toNat z) cn0).a.toNat) 0)), .val (.int .i64 (X.getD (0 + (l.getD (0 + Int.toNat z) cn0).b.toNat) 0)), .val (.int .i64 (l.getD (0 + Int.toNat z) cn0).w)] [] (Det (.sb false) []) := fun h => by
        rw [decide_eq_false (by omega)] at hex
        exact hex
      (repeat' (first
    | (intro Q h; refine h ?_; clear h Q)
    | (with_reducible refine bcase_false ?_)
    | (refine bcase_mk (fun hb => ?_) (fun hb => ?_) <;> (try simp only [nS, nT, eq_self, reduceCtorEq] at hb) <;> (try (exfalso; (omega); done)))
    | refine draw_mk (by decide +kernel) ?_
    | refine seq_go ?_
    | refine And.intro (by first | omega | ((try simp only [wS]); omega) | rfl | decide) ?_
    | ((first | apply calld0 (hex2 (by omega))); (focus ((iterate 2 (all_goals (repeat' (first | exact subL_nil | refine subL_cons ?_ ?_ | exact sub_refl_val _ _ )))); done)))
    | (apply ret_mk [some 0, some 1]; (focus (iterate 2 (all_goals (repeat' (first | exact trivial | (intro Q h; refine h ?_; clear h Q) | refine And.intro ?_ ?_ | exact sub_sbl rfl | exact row_same rfl rfl rfl ))))); (any_goals (apply okIx_mk; rfl)))
    ))
  · have hzl : l.length = z := by omega
    subst hzl
    rw [List.take_length] at ht
    have hyes : hldB l X = true := decide_eq_true ht
    rw [hyes]
    (repeat' (first
    | (intro Q h; refine h ?_; clear h Q)
    | (refine bcase_mk (fun hb => ?_) (fun hb => ?_) <;> (try simp only [nS, nT, eq_self, reduceCtorEq] at hb) <;> (try (exfalso; (omega); done)))
    | refine seq_go ?_
    | (apply ret_mk [some 0, some 1]; (focus (iterate 2 (all_goals (repeat' (first | exact trivial | (intro Q h; refine h ?_; clear h Q) | refine And.intro ?_ ?_ | exact sub_sbl rfl | exact row_same rfl rfl rfl ))))); (any_goals (apply okIx_mk; rfl)))
    ))
end Go.Vx.L53

/- Lemmas of a small executor for the model, and contracts of functions, used for the law that this claim proves. No condition. -/
import Derived.Test.YtgpgmoodfnamjaaBB18
set_option linter.unusedSimpArgs false
set_option linter.unusedVariables false
set_option maxRecDepth 100000
namespace Go.Vx.L18
open Go Go.Proofs
theorem other_ok (m : Nat) (by_ : Int) (n : Int) (l : List Ed) (cap : Option Nat) (hm : 1 ≤ m) (hb : 0 ≤ by_ ∧ by_ ≤ 255) (hn : 0 ≤ n ∧ n ≤ 1000) :
    Runs Try.prog 23 [.val (.int .i64 n), .ptr 0 1 0 0, .ptr 1 2 0 0] [.var [.val (.int .u8 by_)], .var [.val (.int .i64 m), .sl 2 4 0 l.length cap], gB l] (Det (.val (.int .i64 ((n + by_) % m))) [.var [.val (.int .u8 by_)], .var [.val (.int .i64 m), .sl 2 4 0 l.length cap], gB l]) := by
  have hw : IntKind.i64.wrap by_ = by_ := cwrap (by omega) (by omega)
  have hw2 : IntKind.i64.wrap (n + by_) = n + by_ := cwrap (by omega) (by omega)
  have ht : Int.tmod (n + by_) m = (n + by_) % m := Int.tmod_eq_emod_of_nonneg (by omega)
  refine Runs.mk tabOK Try.call23 Try.func23 rfl Try.ntmps23 Try.results23 rfl ?_
  (repeat' (first
    | (intro Q h; refine h ?_; clear h Q)
    | (with_reducible refine bcase_true ?_)
    | (with_reducible refine bcase_false ?_)
    | (refine bcase_mk (fun hb => ?_) (fun hb => ?_) <;> (try simp only [nS, nT, eq_self, reduceCtorEq] at hb))
    | refine nil_mk (fun hz => ?_) ?_
    | refine cp_full (by first | with_reducible rfl | omega | ((try simp only [wS]); omega) | rfl) (by first | with_reducible rfl | omega | ((try simp only [wS]); omega) | rfl) (by first | with_reducible rfl | omega | ((try simp only [wS]); omega) | rfl) ?_
    | refine draw_mk (by decide +kernel) ?_
    | refine seq_go ?_
    | refine And.intro (by first | omega | ((try simp only [wS]); omega) | rfl | decide) ?_
    | (apply ret_mk [some 0, some 1, some 2]; (focus (iterate 2 (all_goals (repeat' (first | exact sub_dead | exact sub_map rfl | exact map_same rfl | exact map_updc rfl | refine map_updc ?_ | refine map_same ?_ | refine map_mk ?_ ?_ | exact subL_nil | exact trivial | (intro Q h; refine h ?_; clear h Q) | refine And.intro ?_ ?_ | refine subL_cons ?_ ?_ | refine sub_agg ?_ | refine sub_tup ?_ | refine sub_fn ?_ | refine sub_bfn ?_ ?_ | refine var_mk ?_ | refine rd_var ?_ rfl | refine rd_rd ?_ | exact sub_ptr rfl rfl | exact sub_sl rfl rfl rfl | exact sub_refl_val _ _ | exact sub_sb rfl | exact sub_sbl rfl | exact row_same rfl rfl rfl | exact row_ren rfl rfl rfl | exact sub_nil rfl | ((first | refine sub_int ?_ | refine sub_sl rfl rfl ?_ | refine sub_nil ?_ | refine virt_mk ?_ | show (_ : Nat) = _); first | with_reducible rfl | omega | ((try simp only [wS]); omega) | rfl) | apply row_app1 | apply row_app2 | apply row_app1r | refine cells_succ ?_ ?_ | exact cell0 | with_reducible rfl | (refine And.left (b := True) ⟨?_, True.intro⟩; assumption) | refine sub_int ?_ | refine sub_sb ?_ | refine sub_sbl ?_ | refine sub_sl rfl rfl ?_ | (apply row_lit rfl; (focus (refine cells_succ ?_ ?_))) | refine row_same rfl ?_ ?_ | refine row_ren rfl ?_ ?_))))); (any_goals (apply okIx_mk; rfl)))
    | omega))
  all_goals (try (first | (rw [hw, hw2, ht]; done) | (rw [hw, ht]; done)))
/-- Edges, some of them swapped with those at the other end. -/
def rvS (l : List Ed) : Nat → List Ed
  | 0 => l
  | k + 1 => ((rvS l k).set k ((rvS l k).getD (l.length - 1 - k) ed0)).set (l.length - 1 - k) ((rvS l k).getD k ed0)
theorem rvS_len (l : List Ed) : ∀ k, (rvS l k).length = l.length
  | 0 => rfl
  | k + 1 => by rw [rvS, List.length_set, List.length_set, rvS_len l k]
theorem rvS_get (l : List Ed) : ∀ k, 2 * k ≤ l.length → ∀ i, i < l.length → (rvS l k).getD i ed0 = if i < k ∨ l.length - k ≤ i then l.getD (l.length - 1 - i) ed0 else l.getD i ed0
  | 0, _, i, hi => by rw [if_neg (by omega)]; rfl
  | k + 1, hk, i, hi => by
    have ih := rvS_get l k (by omega)
    have hl := rvS_len l k
    rw [rvS, getD_set, getD_set, List.length_set, hl]
    by_cases h1 : i = l.length - 1 - k
    · rw [if_pos ⟨h1, by omega⟩, ih k (by omega), if_neg (by omega), if_pos (by omega)]
      congr 1; omega
    · rw [if_neg (fun h => h1 h.1)]
      by_cases h2 : i = k
      · rw [if_pos ⟨h2, by omega⟩, ih _ (by omega), if_neg (by omega), if_pos (by omega)]
        congr 1; omega
      · rw [if_neg (fun h => h2 h.1), ih i hi]
        by_cases h3 : i < k ∨ l.length - k ≤ i
        · rw [if_pos h3, if_pos (by omega)]
        · rw [if_neg h3, if_neg (by omega)]
theorem rvS_rev (l : List Ed) (k : Nat) (h1 : 2 * k ≤ l.length) (h2 : l.length ≤ 2 * k + 1) : rvS l k = l.reverse := by
  apply List.ext_getElem (by rw [rvS_len, List.length_reverse])
  intro i hi hj
  rw [rvS_len] at hi
  have := rvS_get l k h1 i hi
  have e : (if i < k ∨ l.length - k ≤ i then l.getD (l.length - 1 - i) ed0 else l.getD i ed0) = l.getD (l.length - 1 - i) ed0 := by
    split
    · rfl
    · congr 1; omega
  rw [e, List.getD_eq_getElem?_getD, List.getD_eq_getElem?_getD, List.getElem?_eq_getElem (by rw [rvS_len]; exact hi), List.getElem?_eq_getElem (by omega)] at this
  rw [List.getElem_reverse]
  simpa using this
theorem set_pt {ρ : Nat → Option Nat} {α : Type} {cells : α → List AV} {d : α} {e n i k : Nat} {l : List α} {x : α} {vs : List AV} {c : Nat → Nat → AV} (hv : subL ρ (cells x) vs) (hk : k = e) (hi : i < l.length) (hc : ∀ q, q < n → ∀ j, j < e → sub ρ (rowF cells d l q j) (c q j)) :
    ∀ q, q < n → ∀ j, j < e → sub ρ (rowF cells d (l.set i x) q j) (bif Nat.beq q i && (Nat.ble 0 j && Nat.blt j (0 + k)) then vs.getD (j - 0) .dead else c q j) := by
  subst hk
  intro q hq j hj
  show sub ρ (nth (cells ((l.set i x).getD q d)) j) _
  rw [getD_set]
  by_cases h : q = i
  · subst h
    have hb : (Nat.beq q q && (Nat.ble 0 j && Nat.blt j (0 + k))) = true := by simp [Nat.blt]; omega
    rw [if_pos ⟨rfl, hi⟩]
    simp only [hb, cond_true]
    have gen : ∀ (cs vs : List AV) (j : Nat), subL ρ cs vs → sub ρ (nth cs j) (vs.getD j .dead) := by
      intro cs
      induction cs with
      | nil => intro vs j _; simp [nth, sub]
      | cons c r ih =>
        intro vs j h
        obtain ⟨y, r', rfl, h1, h2⟩ := h
        cases j with
        | zero => exact h1
        | succ j => simpa [nth] using ih r' j h2
    exact gen _ _ _ hv
  · have hb : (Nat.beq q i && (Nat.ble 0 j && Nat.blt j (0 + k))) = false := by rw [beq_ne h]; rfl
    rw [if_neg (fun h' => h h'.1)]
    simp only [hb, cond_false]
    exact hc q hq j hj
theorem reverse_ok (l : List Ed) (cap : Option Nat) (hl : l.length ≤ 1000000) :
    Runs Try.prog 24 [.sl 0 4 0 l.length cap] [.arr true 37 4 l.length (edF l)] (Det (.tup []) [.arr true 37 4 l.reverse.length (edF l.reverse)]) := by
  have hlen := rvS_len l
  have hS : ∀ k, rvS l (k + 1) = ((rvS l k).set k ((rvS l k).getD (l.length - 1 - k) ed0)).set (l.length - 1 - k) ((rvS l k).getD k ed0) := fun _ => rfl
  have hrev := rvS_rev l
  refine Runs.mk tabOK Try.call24 Try.func24 rfl Try.ntmps24 Try.results24 rfl ?_
  (repeat' (first
    | (intro Q h; refine h ?_; clear h Q)
    | (with_reducible refine bcase_true ?_)
    | (with_reducible refine bcase_false ?_)
    | (refine bcase_mk (fun hb => ?_) (fun hb => ?_) <;> (try simp only [nS, nT, eq_self, reduceCtorEq] at hb))
    | refine nil_mk (fun hz => ?_) ?_
    | refine cp_full (by first | with_reducible rfl | omega | ((try simp only [wS]); omega) | rfl) (by first | with_reducible rfl | omega | ((try simp only [wS]); omega) | rfl) (by first | with_reducible rfl | omega | ((try simp only [wS]); omega) | rfl) ?_
    | refine draw_mk (by decide +kernel) ?_
    | refine seq_go ?_
    | refine And.intro (by first | omega | ((try simp only [wS]); omega) | rfl | decide) ?_
    | (fail)
    | omega))
  refine loop_inv (σ := Nat) (fun x => 2 * x ≤ l.length ∧ (x : Int) ≤ l.length - x + 1) (fun x => ⟨[(0, .sl 0 4 0 l.length cap), (2, .val (.int .i64 x)), (3, .val (.int .i64 ((l.length : Int) - 1 - x)))], [.arr true 37 4 l.length (edF (rvS l x))]⟩) (fun x => l.length - x) (0) ?_ ?_ ?_
  · omega
  · (apply le_mk [some 0]; (focus (iterate 2 (all_goals (repeat' (first | exact sub_dead | exact sub_map rfl | exact map_same rfl | exact map_updc rfl | refine map_updc ?_ | refine map_same ?_ | refine map_mk ?_ ?_ | exact subL_nil | exact trivial | (intro Q h; refine h ?_; clear h Q) | refine And.intro ?_ ?_ | refine subL_cons ?_ ?_ | refine sub_agg ?_ | refine sub_tup ?_ | refine sub_fn ?_ | refine sub_bfn ?_ ?_ | refine var_mk ?_ | refine rd_var ?_ rfl | refine rd_rd ?_ | exact sub_ptr rfl rfl | exact sub_sl rfl rfl rfl | exact sub_refl_val _ _ | exact sub_sb rfl | exact sub_sbl rfl | exact row_same rfl rfl rfl | exact row_ren rfl rfl rfl | exact sub_nil rfl | ((first | refine sub_int ?_ | refine sub_sl rfl rfl ?_ | refine sub_nil ?_ | refine virt_mk ?_ | show (_ : Nat) = _); first | with_reducible rfl | omega | ((try simp only [wS]); omega) | rfl) | apply row_app1 | apply row_app2 | apply row_app1r | refine cells_succ ?_ ?_ | exact cell0 | with_reducible rfl | (refine And.left (b := True) ⟨?_, True.intro⟩; assumption) | refine sub_int ?_ | refine sub_sb ?_ | refine sub_sbl ?_ | refine sub_sl rfl rfl ?_ | (apply row_lit rfl; (focus (refine cells_succ ?_ ?_))) | refine row_same rfl ?_ ?_ | refine row_ren rfl ?_ ?_))))); (any_goals (apply okIx_mk; rfl)))
  rintro k ⟨hk, _⟩
  have hlk := hlen k
  by_cases hkl : 2 * k + 1 < l.length
  · have hSk := hS k
    have hz1 : 0 + Int.toNat (k : Int) = k := by omega
    have hz2 : 0 + Int.toNat ((l.length : Int) - 1 - k) = l.length - 1 - k := by omega
    generalize rvS l k = R at *
    have hS1 : rvS l (k + 1) = (R.set (0 + Int.toNat (k : Int)) (R.getD (0 + Int.toNat ((l.length : Int) - 1 - k)) ed0)).set (0 + Int.toNat ((l.length : Int) - 1 - k)) (R.getD (0 + Int.toNat (k : Int)) ed0) := by rw [hz1, hz2]; exact hSk
    (repeat' (first
    | (intro Q h; refine h ?_; clear h Q)
    | (with_reducible refine bcase_true ?_)
    | (with_reducible refine bcase_false ?_)
    | (refine bcase_mk (fun hb => ?_) (fun hb => ?_) <;> (try simp only [nS, nT, eq_self, reduceCtorEq] at hb))
    | refine nil_mk (fun hz => ?_) ?_
    | refine cp_full (by first | with_reducible rfl | omega | ((try simp only [wS]); omega) | rfl) (by first | with_reducible rfl | omega | ((try simp only [wS]); omega) | rfl) (by first | with_reducible rfl | omega | ((try simp only [wS]); omega) | rfl) ?_
    | refine draw_mk (by decide +kernel) ?_
    | refine seq_go ?_
    | refine And.intro (by first | omega | ((try simp only [wS]); omega) | rfl | decide) ?_
    | (apply next_sub (Subtype.mk (k + 1) (by first | omega | (simp only; omega))); (focus (rw [hS1]; apply le_mk [some 0]; (focus (iterate 2 (all_goals (repeat' (first | exact sub_dead | exact sub_map rfl | exact map_same rfl | exact map_updc rfl | refine map_updc ?_ | refine map_same ?_ | refine map_mk ?_ ?_ | exact subL_nil | exact trivial | (intro Q h; refine h ?_; clear h Q) | refine And.intro ?_ ?_ | refine subL_cons ?_ ?_ | refine sub_agg ?_ | refine sub_tup ?_ | refine sub_fn ?_ | refine sub_bfn ?_ ?_ | refine var_mk ?_ | refine rd_var ?_ rfl | refine rd_rd ?_ | exact sub_ptr rfl rfl | exact sub_sl rfl rfl rfl | exact sub_refl_val _ _ | exact sub_sb rfl | exact sub_sbl rfl | exact row_same rfl rfl rfl | exact row_ren rfl rfl rfl | exact sub_nil rfl | ((first | refine sub_int ?_ | refine sub_sl rfl rfl ?_ | refine sub_nil ?_ | refine virt_mk ?_ | show (_ : Nat) = _); first | with_reducible rfl | omega | ((try simp only [wS]); omega) | rfl) | apply row_app1 | apply row_app2 | apply row_app1r | refine cells_succ ?_ ?_ | exact cell0 | with_reducible rfl | (refine And.left (b := True) ⟨?_, True.intro⟩; assumption) | refine sub_int ?_ | refine sub_sb ?_ | refine sub_sbl ?_ | refine sub_sl rfl rfl ?_ | (apply row_lit rfl; (focus (refine cells_succ ?_ ?_))) | refine row_same rfl ?_ ?_ | refine row_ren rfl ?_ ?_))))); (any_goals (apply okIx_mk; rfl)))); (all_goals (try (first | omega | (simp only; omega)))))
    | omega))
    all_goals (refine bsub_arr (fun _ => rfl) rfl (set_pt (subL_cons (sub_refl_val _ _) (subL_cons (sub_refl_val _ _) (subL_cons (sub_refl_val _ _) (subL_cons (sub_refl_val _ _) subL_nil)))) rfl ?_ (set_pt (subL_cons (sub_refl_val _ _) (subL_cons (sub_refl_val _ _) (subL_cons (sub_refl_val _ _) (subL_cons (sub_refl_val _ _) subL_nil)))) rfl ?_ ?_)))
    all_goals (first | (rw [List.length_set, hlk]; omega) | (rw [hlk]; omega) | (intro q hq j hj; exact sub_nth FlatC.flat _ _ j) | fail)
  · have hr := hrev k hk (by omega)
    rw [hr]
    (repeat' (first
    | (intro Q h; refine h ?_; clear h Q)
    | (with_reducible refine bcase_true ?_)
    | (with_reducible refine bcase_false ?_)
    | (refine bcase_mk (fun hb => ?_) (fun hb => ?_) <;> (try simp only [nS, nT, eq_self, reduceCtorEq] at hb))
    | refine nil_mk (fun hz => ?_) ?_
    | refine cp_full (by first | with_reducible rfl | omega | ((try simp only [wS]); omega) | rfl) (by first | with_reducible rfl | omega | ((try simp only [wS]); omega) | rfl) (by first | with_reducible rfl | omega | ((try simp only [wS]); omega) | rfl) ?_
    | refine draw_mk (by decide +kernel) ?_
    | refine seq_go ?_
    | refine And.intro (by first | omega | ((try simp only [wS]); omega) | rfl | decide) ?_
    | (apply ret_mk [some 0]; (focus (iterate 2 (all_goals (repeat' (first | exact sub_dead | exact sub_map rfl | exact map_same rfl | exact map_updc rfl | refine map_updc ?_ | refine map_same ?_ | refine map_mk ?_ ?_ | exact subL_nil | exact trivial | (intro Q h; refine h ?_; clear h Q) | refine And.intro ?_ ?_ | refine subL_cons ?_ ?_ | refine sub_agg ?_ | refine sub_tup ?_ | refine sub_fn ?_ | refine sub_bfn ?_ ?_ | refine var_mk ?_ | refine rd_var ?_ rfl | refine rd_rd ?_ | exact sub_ptr rfl rfl | exact sub_sl rfl rfl rfl | exact sub_refl_val _ _ | exact sub_sb rfl | exact sub_sbl rfl | exact row_same rfl rfl rfl | exact row_ren rfl rfl rfl | exact sub_nil rfl | ((first | refine sub_int ?_ | refine sub_sl rfl rfl ?_ | refine sub_nil ?_ | refine virt_mk ?_ | show (_ : Nat) = _); first | with_reducible rfl | omega | ((try simp only [wS]); omega) | rfl) | apply row_app1 | apply row_app2 | apply row_app1r | refine cells_succ ?_ ?_ | exact cell0 | with_reducible rfl | (refine And.left (b := True) ⟨?_, True.intro⟩; assumption) | refine sub_int ?_ | refine sub_sb ?_ | refine sub_sbl ?_ | refine sub_sl rfl rfl ?_ | (apply row_lit rfl; (focus (refine cells_succ ?_ ?_))) | refine row_same rfl ?_ ?_ | refine row_ren rfl ?_ ?_))))); (any_goals (apply okIx_mk; rfl)))
    | omega))
    all_goals (exact List.length_reverse.symm)
end Go.Vx.L18

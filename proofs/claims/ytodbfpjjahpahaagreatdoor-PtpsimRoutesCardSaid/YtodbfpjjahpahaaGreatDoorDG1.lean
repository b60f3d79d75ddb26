/- Lemmas of a small executor for the model, and contracts of functions, used for the law that this claim proves. No condition. -/
import Derived.Test.YtodbfpjjahpahaaGreatDoorDW3
import Derived.Test.YtodbfpjjahpahaaGreatDoorDT58
import Derived.Handy
set_option linter.unusedSimpArgs false
set_option linter.unusedVariables false
set_option maxRecDepth 100000
namespace Go.Vx.L58
open Go Go.Proofs
theorem cwrap {n : Int} (h1 : -9223372036854775808 ≤ n) (h2 : n ≤ 9223372036854775807) : IntKind.i64.wrap n = n := wrapIn h1 h2
structure Ed where
 a : Int
 pa : Int
 b : Int
 pb : Int
 deriving DecidableEq
def ed0 : Ed := ⟨0, 0, 0, 0⟩
instance : Inhabited Ed := ⟨ed0⟩
def edC (c : Ed) : List AV := [.val (.int .i64 c.a), .val (.int .i64 c.pa), .val (.int .i64 c.b), .val (.int .i64 c.pb)]
abbrev edF (l : List Ed) : Nat → Nat → AV := rowF edC ed0 l
theorem edC_flat : Flat edC := fun x v h => by simp [edC] at h; rcases h with rfl | rfl | rfl | rfl <;> trivial
instance : FlatC edC := ⟨edC_flat⟩
abbrev gA (n : Int) (l : List Ed) (cap : Option Nat) : AV := .agg [.val (.int .i64 n), .sl 0 4 0 l.length cap]
abbrev gB (l : List Ed) : Blk := .arr false 61 4 l.length (edF l)
def endB (n a p : Int) : Bool := decide (0 ≤ a ∧ a < n ∧ 1 ≤ p ∧ p ≤ 8)
theorem isEnd_ok (n a p : Int) (l : List Ed) (cap : Option Nat) : Runs Tryz.prog 110 [gA n l cap, .val (.int .i64 a), .val (.int .i64 p)] [gB l] (Det (.sb (endB n a p)) [gB l]) := by
 refine Runs.mk tabOK Tryz.call110 Tryz.func110 rfl Tryz.ntmps110 Tryz.results110 rfl ?_
 (repeat' (first
  | (intro Q h; refine h ?_; clear h Q)
  | (refine bcase_mk (fun hb => ?_) (fun hb => ?_) <;> (try simp only [nS, nT, eq_self, reduceCtorEq] at hb))
  | (apply ret_mk [some 0]; (focus (iterate 2 (all_goals (repeat' (first | exact trivial | (intro Q h; refine h ?_; clear h Q) | refine And.intro ?_ ?_ | exact row_same rfl rfl rfl | refine sub_sb ?_ | refine sub_sbl ?_ ))))); any_goals (apply okIx_mk; rfl))
  ))
 all_goals (simp_all [endB] <;> omega)
def ckL (n : Int) : List Ed → List (List Int) → Int
 | [], _ => 0
 | e :: r, seen => if !(endB n e.a e.pa && endB n e.b e.pb) then 3 else if e.a = e.b then 18
   else if seen.contains [e.a, e.pa] || seen.contains [e.b, e.pb] then 10 else ckL n r (seen ++ [[e.a, e.pa], [e.b, e.pb]])
def ckC (n : Int) (l : List Ed) : Int := if n < 1 ∨ 24 < n then 3 else if l.length > 64 then 6 else ckL n l []
def endsL : List Ed → List (List Int)
 | [] => []
 | e :: r => [e.a, e.pa] :: [e.b, e.pb] :: endsL r
theorem endsL_app (l r : List Ed) : endsL (l ++ r) = endsL l ++ endsL r := by
 induction l with
 | nil => rfl
 | cons e l ih => simp [endsL, ih]
theorem mem_ends (x : List Int) (l : List Ed) : x ∈ endsL l ↔ ∃ e ∈ l, x = [e.a, e.pa] ∨ x = [e.b, e.pb] := by
 induction l with
 | nil => simp [endsL]
 | cons e l ih => simp [endsL, ih, or_assoc]
section
theorem take_succ {l : List Ed} {k : Nat} (h : k < l.length) : l.take (k + 1) = l.take k ++ [l.getD k ed0] := by
 rw [List.getD_eq_getElem?_getD, List.getElem?_eq_getElem h, Option.getD_some]; exact (List.take_append_getElem h).symm
theorem ends_succ {l : List Ed} {k : Nat} (h : k < l.length) : endsL (l.take (k + 1)) = endsL (l.take k) ++ [[(l.getD k ed0).a, (l.getD k ed0).pa], [(l.getD k ed0).b, (l.getD k ed0).pb]] := by
 rw [take_succ h, endsL_app]; rfl
end
theorem check_ok (n : Int) (l : List Ed) (cap : Option Nat) (hl : l.length ≤ maxLen) :
  Runs Tryz.prog 65 [gA n l cap] [gB l] (Det (.val (.int .i64 (ckC n l))) [gB l]) := by
 have hmx : maxLen = 9223372036854775807 := by decide
 refine Runs.mk tabOK Tryz.call65 Tryz.func65 rfl Tryz.ntmps65 Tryz.results65 rfl ?_
 (repeat' (first
  | (intro Q h; refine h ?_; clear h Q)
  | (refine bcase_mk (fun hb => ?_) (fun hb => ?_) <;> (try simp only [nS, nT, eq_self, reduceCtorEq] at hb))
  | refine seq_go ?_
  | (apply ret_mk [some 0]; (focus (iterate 2 (all_goals (repeat' (first | exact trivial | (intro Q h; refine h ?_; clear h Q) | refine And.intro ?_ ?_ | exact row_same rfl rfl rfl | refine sub_int ?_ ))))); any_goals (apply okIx_mk; rfl))
  ))
 ·simp [ckC]; omega
 ·simp [ckC]; omega
 ·simp [ckC]; omega
 refine loop_inv (σ := Nat) (fun x => x ≤ l.length ∧ ckL n (l.drop x) (endsL (l.take x)) = ckL n l []) (fun x => ⟨[(1, .ptr 1 2 0 0), (3, .map 2), (22, .sl 0 4 0 l.length cap), (23, .val (.int .i64 l.length)), (24, .val (.int .i64 x))], [gB l, .var [.val (.int .i64 n), .sl 0 4 0 l.length cap], .map (some 2) (endsL (l.take x)) (fun _ => .val (.bool true))]⟩) (fun x => l.length - x) (0) ?_ ?_ ?_
 ·simp [endsL]
 ·(apply le_mk [some 0, some 1, some 2]; (focus (iterate 2 (all_goals (repeat' (first | exact sub_map rfl | refine map_mk ?_ ?_ | exact subL_nil | exact trivial | (intro Q h; refine h ?_; clear h Q) | refine And.intro ?_ ?_ | refine subL_cons ?_ ?_ | refine var_mk ?_ | exact sub_ptr rfl rfl | exact sub_sl rfl rfl rfl | exact sub_refl_val _ _ | exact row_same rfl rfl rfl ))))); any_goals (apply okIx_mk; rfl))
  all_goals (try (first | rfl | (intro x hx; simp [endsL] at hx)))
 rintro k ⟨hk, ht⟩
 have hC : ckC n l = ckL n l [] := by unfold ckC; rw [if_neg (by omega), if_neg (by omega)]
 have hd := drop_cons l k ed0
 have he := fun h => ends_succ (l := l) (k := k) h
 (repeat' (first
  | (intro Q h; refine h ?_; clear h Q)
  | (refine bcase_mk (fun hb => ?_) (fun hb => ?_) <;> (try simp only [nS, nT, eq_self, reduceCtorEq] at hb))
  | refine draw_mk (by decide +kernel) ?_
  | refine seq_go ?_
  | refine And.intro (by first | omega | ((try simp only [wS]); omega) | rfl | decide) ?_
  | ((first | apply call1 (isEnd_ok _ _ _ _ _) ); exact AS; (try (any_goals fail)))
  | (apply ret_mk [some 0]; (focus (iterate 2 (all_goals (repeat' (first | exact trivial | (intro Q h; refine h ?_; clear h Q) | refine And.intro ?_ ?_ | exact row_same rfl rfl rfl | refine sub_int ?_ ))))); any_goals (apply okIx_mk; rfl))
  | (apply next_sub (Subtype.mk (k + 1) _); (focus (apply le_mk [some 0, some 1, some 2]; (focus (iterate 2 (all_goals (repeat' (first | exact sub_map rfl | refine map_mk ?_ ?_ | exact subL_nil | exact trivial | (intro Q h; refine h ?_; clear h Q) | refine And.intro ?_ ?_ | refine subL_cons ?_ ?_ | refine var_mk ?_ | exact sub_ptr rfl rfl | exact sub_sl rfl rfl rfl | exact sub_refl_val _ _ | exact row_same rfl rfl rfl | ((refine sub_int ?_); first | with_reducible rfl | omega | ((try simp only [wS]); omega) | rfl) ))))); any_goals (apply okIx_mk; rfl))); (all_goals (try (first | (simp only; omega)))))
  ))
 all_goals (try simp only [Nat.zero_add, Int.toNat_natCast] at *)
 ·rw [hC, ← ht, hd (by omega)]; simp only [ckL, hb, Bool.false_and, Bool.not_false, if_true]
 ·rename_i h1; rw [hC, ← ht, hd (by omega)]; simp only [ckL, h1, hb, Bool.and_false, Bool.not_false, if_true]
 ·rename_i h1 h2; rw [hC, ← ht, hd (by omega)]; simp only [ckL, h1, h2, if_pos hb, Bool.and_true, Bool.not_true, Bool.false_eq_true, if_false]
 ·rename_i h1 h2 h3; rw [hC, ← ht, hd (by omega)]; simp only [ckL, h1, h2, h3, hb, Bool.and_true, Bool.not_true, Bool.false_eq_true, if_false, Bool.true_or, if_true]
 ·rename_i h1 h2 h3 h4; rw [hC, ← ht, hd (by omega)]; simp only [ckL, h1, h2, h3, h4, hb, Bool.and_true, Bool.not_true, Bool.false_eq_true, if_false, Bool.or_true, if_true]
 ·rename_i h1 h2 h3 h4
  have h5 : (endsL (l.take k) ++ [[(l.getD k ed0).a, (l.getD k ed0).pa]]).contains [(l.getD k ed0).b, (l.getD k ed0).pb] = false := by
   rw [Bool.eq_false_iff] at hb ⊢
   intro q
   rw [List.contains_iff_mem, List.mem_append] at q
   rcases q with q | q
   ·exact hb (List.contains_iff_mem.2 q)
   ·simp at q; exact h3 q.1.symm
  rw [he (by omega)]
  simp only [addKey, h4, cond_false, h5, List.append_assoc, List.cons_append, List.nil_append]
 ·intro x hx
  simp only [updK]
  cases (x == [(l.getD k ed0).b, (l.getD k ed0).pb])
  ·cases (x == [(l.getD k ed0).a, (l.getD k ed0).pa]) <;> rfl
  ·rfl
 ·rename_i h1 h2 h3 h4
  rw [← ht, hd (by omega), he (by omega)]
  simp only [ckL, h1, h2, h3, h4, hb, Bool.and_true, Bool.not_true, Bool.false_eq_true, if_false, Bool.or_false]
 ·rw [hC, ← ht, List.drop_of_length_le (by omega)]; rfl
end Go.Vx.L58

/- Lemmas of a small executor for the model, and contracts of functions, used for the law that this claim proves. No condition. -/
import Derived.Test.YtodbfpjjahpahaaDoorG11
set_option linter.unusedSimpArgs false
set_option linter.unusedVariables false
set_option maxRecDepth 100000
namespace Go.Vx.L42
open Go Go.Proofs
def pkS (a : Int) (e : Ed) (ks : List (List Int)) : List (List Int) :=
  if e.b = a then addKey (if e.a = a then addKey ks [e.pa] else ks) [e.pb] else (if e.a = a then addKey ks [e.pa] else ks)
def pk (a : Int) : List Ed → List (List Int) → List (List Int)
  | [], ks => ks
  | e :: r, ks => pk a r (pkS a e ks)
theorem keys_ok : Runs Tryd.prog 71 [.map 0] [.gone] (Det (.fn (.func 82) [.ptr 1 1 0 0]) [.gone, .var [.map 0]]) := by
  refine Runs.mk tabOK Tryd.call71 Tryd.func71 rfl Tryd.ntmps71 Tryd.results71 rfl ?_
  (repeat' (first
    | (intro Q h; refine h ?_; clear h Q)
    | (apply ret_mk [some 0, some 1]; (focus (iterate 2 (all_goals (repeat' (first | exact sub_map rfl | exact subL_nil | exact trivial | (intro Q h; refine h ?_; clear h Q) | refine And.intro ?_ ?_ | refine subL_cons ?_ ?_ | refine sub_fn ?_ | refine var_mk ?_ | exact sub_ptr rfl rfl ))))); (any_goals (apply okIx_mk; rfl)))
    ))
theorem ports_nil (n : Int) (l : List Ed) (cap : Option Nat) (hl : l.length ≤ maxLen) (a : Int) (h : hasB n l a = false) :
    Runs Tryd.prog 45 [gA n l cap, .val (.int .i64 a)] [gB l] (Det (.val (.slice none 0 0)) [gB l]) := by
  have h1 := has_ok n l cap hl a
  rw [h] at h1
  refine Runs.mk tabOK Tryd.call45 Tryd.func45 rfl Tryd.ntmps45 Tryd.results45 rfl ?_
  (repeat' (first
    | (intro Q h; refine h ?_; clear h Q)
    | (refine bcase_mk (fun hb => ?_) (fun hb => ?_) <;> (try simp only [nS, nT, eq_self, reduceCtorEq] at hb))
    | refine seq_go ?_
    | ((first | apply call1 (h1) ); (focus (iterate 2 (all_goals (repeat' (first | exact subL_nil | exact trivial | (intro Q h; refine h ?_; clear h Q) | refine And.intro ?_ ?_ | refine subL_cons ?_ ?_ | refine sub_agg ?_ | exact sub_sl rfl rfl rfl | exact sub_refl_val _ _ | exact row_same rfl rfl rfl ))))); (try (any_goals fail)))
    | (apply ret_mk [some 0]; (focus (iterate 2 (all_goals (repeat' (first | exact trivial | (intro Q h; refine h ?_; clear h Q) | refine And.intro ?_ ?_ | exact sub_refl_val _ _ | exact row_same rfl rfl rfl ))))); (any_goals (apply okIx_mk; rfl)))
    ))
theorem ports_run (n : Int) (l : List Ed) (cap : Option Nat) (hl : l.length ≤ maxLen) (a : Int) (h : hasB n l a = true)
    (hwf : ∀ k ∈ pk a l [], -9223372036854775808 ≤ k.headD 0 ∧ k.headD 0 ≤ 9223372036854775807) (hlen : (pk a l []).length ≤ 1000000) :
    Runs Tryd.prog 45 [gA n l cap, .val (.int .i64 a)] [gB l] (Det (.sl 1 1 0 (pk a l []).length none) [gB l, .arr true 3 1 (pk a l []).length (intF (sortK (pk a l [])))]) := by
  have hmx : maxLen = 9223372036854775807 := by decide
  have h1 := has_ok n l cap hl a
  rw [h] at h1
  refine Runs.mk tabOK Tryd.call45 Tryd.func45 rfl Tryd.ntmps45 Tryd.results45 rfl ?_
  (repeat' (first
    | (intro Q h; refine h ?_; clear h Q)
    | (refine bcase_mk (fun hb => ?_) (fun hb => ?_) <;> (try simp only [nS, nT, eq_self, reduceCtorEq] at hb))
    | refine seq_go ?_
    | ((first | apply call1 (h1) ); (focus (iterate 2 (all_goals (repeat' (first | exact subL_nil | exact trivial | (intro Q h; refine h ?_; clear h Q) | refine And.intro ?_ ?_ | refine subL_cons ?_ ?_ | refine sub_agg ?_ | exact sub_sl rfl rfl rfl | exact sub_refl_val _ _ | exact row_same rfl rfl rfl ))))); (try (any_goals fail)))
    ))
  refine loop_inv (σ := Nat × List (List Int)) (fun x => x.1 ≤ l.length ∧ pk a (l.drop x.1) x.2 = pk a l []) (fun x => ⟨[(1, .val (.int .i64 a)), (5, .map 1), (14, .sl 0 4 0 l.length cap), (15, .val (.int .i64 l.length)), (16, .val (.int .i64 x.1))], [gB l, .map none x.2 (fun _ => .val (.bool true))]⟩) (fun x => l.length - x.1) ((0, [])) ?_ ?_ ?_
  · simp
  · (apply le_mk [some 0, some 2]; (focus (iterate 2 (all_goals (repeat' (first | exact sub_map rfl | refine map_mk ?_ ?_ | exact trivial | (intro Q h; refine h ?_; clear h Q) | refine And.intro ?_ ?_ | exact sub_sl rfl rfl rfl | exact sub_refl_val _ _ | exact row_same rfl rfl rfl | with_reducible rfl ))))); (any_goals (apply okIx_mk; rfl)))
    all_goals (try (first | (intro x hx; simp at hx)))
  rintro ⟨k, ks⟩ ⟨hk, ht⟩
  simp only at hk ht
  have hd := drop_cons l k ed0
  (repeat' (first
    | (intro Q h; refine h ?_; clear h Q)
    | (refine bcase_mk (fun hb => ?_) (fun hb => ?_) <;> (try simp only [nS, nT, eq_self, reduceCtorEq] at hb))
    | refine seq_go ?_
    | refine And.intro (by first | omega | ((try simp only [wS]); omega) | rfl | decide) ?_
    | (apply next_sub (Subtype.mk (k + 1, pkS a (l.getD k ed0) ks) _); (focus (apply le_mk [some 0, some 1]; (focus (iterate 2 (all_goals (repeat' (first | exact sub_map rfl | refine map_updc ?_ | refine map_same ?_ | refine map_mk ?_ ?_ | exact trivial | (intro Q h; refine h ?_; clear h Q) | refine And.intro ?_ ?_ | exact sub_sl rfl rfl rfl | exact sub_refl_val _ _ | exact row_same rfl rfl rfl | ((first | refine sub_int ?_ ); first | with_reducible rfl | omega | ((try simp only [wS]); omega) | rfl) ))))); (any_goals (apply okIx_mk; rfl)))); (all_goals (try (first | (simp only; omega)))))
    ))
  all_goals (try simp only [Nat.zero_add, Int.toNat_natCast] at *)
  all_goals (try (simp only [pkS]; simp only [*, if_true, if_false]; done))
  all_goals (try (rw [← ht, hd (by omega)]; rfl))
  · intro x hx
    simp only [updK]
    cases (x == [(l.getD k ed0).pb])
    · cases (x == [(l.getD k ed0).pa]) <;> rfl
    · rfl
  · have e : ks = pk a l [] := by rw [← ht, List.drop_of_length_le (by omega)]; rfl
    subst e
    have hso := sorted_ok (pk a l []) (fun _ => .val (.bool true)) hwf hlen
    (repeat' (first
    | (intro Q h; refine h ?_; clear h Q)
    | ((first | apply call1 (keys_ok) ); (focus (iterate 2 (all_goals (repeat' (first | exact sub_map rfl | exact subL_nil | exact trivial | (intro Q h; refine h ?_; clear h Q) | refine And.intro ?_ ?_ | refine subL_cons ?_ ?_ ))))); (try (any_goals fail)))
    | ((first | apply call2 (hso) ); (focus (iterate 2 (all_goals (repeat' (first | exact sub_map rfl | exact map_same rfl | exact subL_nil | exact trivial | (intro Q h; refine h ?_; clear h Q) | refine And.intro ?_ ?_ | refine subL_cons ?_ ?_ | refine sub_fn ?_ | refine var_mk ?_ | exact sub_ptr rfl rfl ))))); (try (any_goals (first | (apply nodup_mk; rfl) ))))
    | (apply ret_mk [some 0, some 3]; (focus (iterate 2 (all_goals (repeat' (first | exact trivial | (intro Q h; refine h ?_; clear h Q) | refine And.intro ?_ ?_ | exact sub_sl rfl rfl rfl | exact row_same rfl rfl rfl | exact row_ren rfl rfl rfl ))))); (any_goals (apply okIx_mk; rfl)))
    ))
end Go.Vx.L42

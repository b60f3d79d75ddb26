/- Lemmas of a small executor for the model, and contracts of functions, used for the law that this claim proves. No condition. -/
import Derived.Test.YtodbfpjjahpahaaDoorG4
import Derived.Test.YtodbfpjjahpahaaDoorS42
import Derived.Test.YtodbfpjjahpahaaDoorW3
set_option linter.unusedSimpArgs false
set_option linter.unusedVariables false
set_option maxRecDepth 100000
namespace Go.Vx.L42
open Go Go.Proofs
def srt (l : List Int) : List Int := l.mergeSort fun x y => decide (x ≤ y)
theorem srt_len (l : List Int) : (srt l).length = l.length := List.length_mergeSort ..
theorem sort_ok (l : List Int) (t : TypeId) (cap : Option Nat) (hl : l.length ≤ 1000000) :
    Runs Tryd.prog 72 [.sl 0 1 0 l.length cap] [.arr true t 1 l.length (intF l)] (Det (.tup []) [.arr true t 1 l.length (intF (srt l))]) :=
  sort_bridge Tryd.call72 (Any.slices_Sort_int Tryd.lays189) (Any.slices_Sort_int_none Tryd.lays189) l t cap hl
/-- A graph's neighbors, row by row. -/
abbrev nB (n : Nat) (rs : List (List Int)) : Blk := .fam true 58 3 1 n (famF intC 0 rs) none 0
/-- One edge more. -/
def stN (rs : List (List Int)) (e : Ed) : List (List Int) :=
  (rs.set e.a.toNat (rs.getD e.a.toNat [] ++ [e.b])).set e.b.toNat ((rs.set e.a.toNat (rs.getD e.a.toNat [] ++ [e.b])).getD e.b.toNat [] ++ [e.a])
def nrU (n : Nat) (l : List Ed) : List (List Int) := l.foldl stN (List.replicate n [])
theorem stN_len (rs : List (List Int)) (e : Ed) : (stN rs e).length = rs.length := by simp [stN]
theorem nrU_len (n : Nat) (l : List Ed) : (nrU n l).length = n := by
  unfold nrU
  have : ∀ (l : List Ed) (rs : List (List Int)), (l.foldl stN rs).length = rs.length := by
    intro l
    induction l with
    | nil => intro rs; rfl
    | cons e l ih => intro rs; rw [List.foldl_cons, ih, stN_len]
  rw [this]; simp
theorem stN_row (rs : List (List Int)) (e : Ed) (i : Nat) : ((stN rs e).getD i []).length ≤ (rs.getD i []).length + 2 := by
  unfold stN
  rw [getD_set]
  have h1 : ∀ j, ((rs.set e.a.toNat (rs.getD e.a.toNat [] ++ [e.b])).getD j []).length ≤ (rs.getD j []).length + 1 := fun j => by
    rw [getD_set]
    split
    · rename_i h; rw [h.1]; simp
    · omega
  split
  · rename_i h
    rw [← h.1]
    have := h1 i
    simp only [List.length_append, List.length_cons, List.length_nil]
    omega
  · have := h1 i
    omega
theorem nrU_succ (n : Nat) {l : List Ed} {k : Nat} (h : k < l.length) : nrU n (l.take (k + 1)) = stN (nrU n (l.take k)) (l.getD k ed0) := by
  unfold nrU
  rw [List.take_add_one, List.getD_eq_getElem?_getD, List.getElem?_eq_getElem h, List.foldl_append]; rfl
theorem nrU_row (n : Nat) (l : List Ed) (i : Nat) : ∀ k, k ≤ l.length → ((nrU n (l.take k)).getD i []).length ≤ 2 * k
  | 0, _ => by
    show ((List.replicate n ([] : List Int)).getD i []).length ≤ 0
    rw [List.getD_eq_getElem?_getD, List.getElem?_replicate]
    split <;> simp
  | k + 1, h => by
    have ih := nrU_row n l i k (by omega)
    rw [nrU_succ n (by omega)]
    have := stN_row (nrU n (l.take k)) (l.getD k ed0) i
    omega
theorem sortk (rs : List (List Int)) (x : Nat) (h : x < rs.length) : (rs.take (x + 1)).map srt ++ rs.drop (x + 1) = ((rs.take x).map srt ++ rs.drop x).set x (srt (rs.getD x [])) := by
  have hl : ((rs.take x).map srt).length = x := by simp; omega
  rw [List.set_append_right _ _ (by omega), hl, Nat.sub_self, List.drop_eq_getElem_cons h, List.set_cons_zero, List.take_add_one, List.getElem?_eq_getElem h, List.getD_eq_getElem?_getD, List.getElem?_eq_getElem h]
  simp only [List.map_append, Option.toList_some, List.map_cons, List.map_nil, List.append_assoc, List.singleton_append, Option.getD_some, List.cons_append, List.nil_append]
def nrF (n : Nat) (l : List Ed) : List (List Int) := (nrU n l).map srt
theorem neighbors_ok (n : Nat) (l : List Ed) (cap : Option Nat) (hn : 1 ≤ n ∧ n ≤ 24) (hl : l.length ≤ 64) (he : ∀ k, k < l.length → (0 ≤ (l.getD k ed0).a ∧ (l.getD k ed0).a < n) ∧ (0 ≤ (l.getD k ed0).b ∧ (l.getD k ed0).b < n) ∧ (l.getD k ed0).a ≠ (l.getD k ed0).b) :
    Runs Tryd.prog 47 [gA n l cap] [gB l] (Det (.sl 1 1 0 n none) [gB l, nB n (nrF n l)]) := by
  refine Runs.mk tabOK Tryd.call47 Tryd.func47 rfl Tryd.ntmps47 Tryd.results47 rfl ?_
  (repeat' (first
    | (intro Q h; refine h ?_; clear h Q)
    | refine seq_go ?_
    | refine And.intro (by first | omega | ((try simp only [wS]); omega) | rfl | decide) ?_
    ))
  refine loop_inv (σ := Nat) (fun x => x ≤ l.length) (fun x => ⟨[(3, .sl 1 1 0 n none), (12, .sl 0 4 0 l.length cap), (13, .val (.int .i64 l.length)), (14, .val (.int .i64 x))], [gB l, nB n (nrU n (l.take x))]⟩) (fun x => l.length - x) (0) ?_ ?_ ?_
  · omega
  · (apply le_mk [some 0, some 2]; (focus (iterate 2 (all_goals (repeat' (first | exact fam_new rfl rfl | exact trivial | (intro Q h; refine h ?_; clear h Q) | refine And.intro ?_ ?_ | exact sub_sl rfl rfl rfl | exact sub_refl_val _ _ | exact row_same rfl rfl rfl ))))); (any_goals (apply okIx_mk; rfl)))
  rintro k hk
  have he := he (0 + Int.toNat k)
  have hr := fun i => nrU_row n l i k hk
  have hlen := nrU_len n (l.take k)
  have hS := fun h => nrU_succ n (l := l) (k := k) h
  by_cases hkl : k < l.length
  · have hS := hS hkl
    have hz : 0 + Int.toNat k = k := by omega
    rw [hz] at he
    have he := he hkl
    generalize nrU n (l.take k) = rs at *
    generalize hE : l.getD k ed0 = E at *
    have hE' : l.getD (0 + Int.toNat k) ed0 = E := by rw [hz]; exact hE
    obtain ⟨A, PA, B, PB⟩ := E
    simp only at he
    obtain ⟨⟨a0, a1⟩, ⟨b0, b1⟩, hab⟩ := he
    obtain ⟨a, rfl⟩ := Int.eq_ofNat_of_zero_le a0
    obtain ⟨b, rfl⟩ := Int.eq_ofNat_of_zero_le b0
    have hra := hr a
    have hrb := hr b
    have hfa : (famF intC 0 rs (0 + a)).1 ≤ 2 * k := by rw [famF_fst, Nat.zero_add]; exact hra
    (repeat' (first
    | (intro Q h; refine h ?_; clear h Q)
    | (refine bcase_mk (fun hb => ?_) (fun hb => ?_) <;> (try simp only [nS, nT, eq_self, reduceCtorEq] at hb))
    | omega))
    refine seq_go ?_
    (repeat' (first
    | (intro Q h; refine h ?_; clear h Q)
    ))
    refine seq_join (σ := Unit) (fun x => True) (fun x => ⟨[(3, .sl 1 1 0 n none), (5, .ptr 2 4 0 0), (12, .sl 0 4 0 l.length cap), (13, .val (.int .i64 l.length)), (14, .val (.int .i64 k))], [gB l, nB n rs, .var [.val (.int .i64 a), .val (.int .i64 PA), .val (.int .i64 b), .val (.int .i64 PB)]]⟩) ?_ ?_
    · (repeat' (first
    | (intro Q h; refine h ?_; clear h Q)
    | refine And.intro (by first | omega | ((try simp only [wS]); omega) | rfl | decide) ?_
    | (apply join_sub (Subtype.mk () _); (focus (apply le_mk [some 0, some 1, some 2]; (focus (iterate 2 (all_goals (repeat' (first | exact fam_same rfl rfl rfl | exact subL_nil | exact trivial | (intro Q h; refine h ?_; clear h Q) | refine And.intro ?_ ?_ | refine subL_cons ?_ ?_ | refine var_mk ?_ | exact sub_ptr rfl rfl | exact sub_sl rfl rfl rfl | exact sub_refl_val _ _ | exact row_same rfl rfl rfl | refine sub_int ?_ ))))); (any_goals (apply okIx_mk; rfl)))); (all_goals (try fail)))
    ))
      all_goals (first | exact True.intro | (rw [hE']; done) )
    rintro ⟨⟩ _
    (repeat' (first
    | (intro Q h; refine h ?_; clear h Q)
    ))
    refine seq_join (σ := Unit) (fun x => True) (fun x => ⟨[(3, .sl 1 1 0 n none), (5, .ptr 2 4 0 0), (12, .sl 0 4 0 l.length cap), (13, .val (.int .i64 l.length)), (14, .val (.int .i64 k))], [gB l, nB n (rs.set a (rs.getD a [] ++ [(b : Int)])), .var [.val (.int .i64 a), .val (.int .i64 PA), .val (.int .i64 b), .val (.int .i64 PB)]]⟩) ?_ ?_
    · (repeat' (first
    | (intro Q h; refine h ?_; clear h Q)
    | refine draw_mk (by decide +kernel) ?_
    | refine And.intro (by first | omega | ((try simp only [wS]); omega) | rfl | decide) ?_
    | (apply join_sub (Subtype.mk () _); (focus (apply le_mk [some 0, some 1, some 2]; (focus (iterate 2 (all_goals (repeat' (first | exact subL_nil | exact trivial | (intro Q h; refine h ?_; clear h Q) | refine And.intro ?_ ?_ | refine subL_cons ?_ ?_ | refine var_mk ?_ | exact sub_ptr rfl rfl | exact sub_sl rfl rfl rfl | exact sub_refl_val _ _ | exact row_same rfl rfl rfl ))))); (any_goals (apply okIx_mk; rfl)))); (all_goals (try (first | omega ))))
    ))
      all_goals (refine fam_app1 (x := (b : Int)) (cell1 ?_) ?_ ?_ rfl)
      all_goals (first | exact sub_refl_val _ _ | (simp only [Int.toNat_natCast, Nat.zero_add]; done) | (simp only [Int.toNat_natCast, Nat.zero_add]; omega) )
    rintro ⟨⟩ _
    have hfb : (famF intC 0 (rs.set a (rs.getD a [] ++ [(b : Int)])) (0 + b)).1 ≤ 2 * k := by
      rw [famF_fst, Nat.zero_add, getD_set, if_neg (fun h => by have := h.1; omega)]; exact hrb
    (repeat' (first
    | (intro Q h; refine h ?_; clear h Q)
    | refine draw_mk (by decide +kernel) ?_
    | refine And.intro (by first | omega | ((try simp only [wS]); omega) | rfl | decide) ?_
    | (apply next_sub (Subtype.mk (k + 1) _); (focus (apply le_mk [some 0, some 1]; (focus (iterate 2 (all_goals (repeat' (first | exact trivial | (intro Q h; refine h ?_; clear h Q) | refine And.intro ?_ ?_ | exact sub_sl rfl rfl rfl | exact sub_refl_val _ _ | exact row_same rfl rfl rfl | ((first | refine sub_int ?_ ); first | with_reducible rfl | omega | ((try simp only [wS]); omega) | rfl) ))))); (any_goals (apply okIx_mk; rfl)))); (all_goals (try (first | omega | (simp only; omega)))))
    ))
    · rw [hS]
      refine fam_app1 (rs' := rs.set a (rs.getD a [] ++ [(b : Int)])) (x := (a : Int)) (cell1 ?_) ?_ ?_ rfl
      all_goals (first | exact sub_refl_val _ _ | (simp only [Int.toNat_natCast, Nat.zero_add, stN]; done) | (simp only [Int.toNat_natCast, Nat.zero_add, List.length_set]; omega) )
  · have hk2 : k = l.length := by omega
    subst hk2
    rw [List.take_length]
    clear he hr hlen hS
    generalize hU : nrU n l = rs
    have hrl : rs.length = n := by rw [← hU]; exact nrU_len n l
    have hrow : ∀ i, (rs.getD i []).length ≤ 1000000 := fun i => by
      have := nrU_row n l i l.length (Nat.le_refl _)
      rw [List.take_length, hU] at this
      omega
    (repeat' (first
    | (intro Q h; refine h ?_; clear h Q)
    | (refine bcase_mk (fun hb => ?_) (fun hb => ?_) <;> (try simp only [nS, nT, eq_self, reduceCtorEq] at hb))
    | refine draw_mk (by decide +kernel) ?_
    | refine seq_go ?_
    | refine And.intro (by first | omega | ((try simp only [wS]); omega) | rfl | decide) ?_
    | omega))
    refine loop_inv (σ := Nat) (fun x => x ≤ n) (fun x => ⟨[(3, .sl 1 1 0 n none), (45, .sl 1 1 0 n none), (46, .val (.int .i64 n)), (47, .val (.int .i64 x))], [gB l, nB n ((rs.take x).map srt ++ rs.drop x)]⟩) (fun x => n - x) (0) ?_ ?_ ?_
    · omega
    · (apply le_mk [some 0, some 1]; (focus (iterate 2 (all_goals (repeat' (first | exact fam_same rfl rfl rfl | exact trivial | (intro Q h; refine h ?_; clear h Q) | refine And.intro ?_ ?_ | exact sub_sl rfl rfl rfl | exact sub_refl_val _ _ | exact row_same rfl rfl rfl ))))); (any_goals (apply okIx_mk; rfl)))
    rintro x hx
    have hz : 0 + Int.toNat x = x := by omega
    generalize hR : (rs.take x).map srt ++ rs.drop x = R
    by_cases hxn : x < n
    · have hRx : R.getD x [] = rs.getD x [] := by
        rw [← hR, List.getD_eq_getElem?_getD, List.getElem?_append_right (by simp; omega), List.getElem?_drop]
        simp only [List.length_map, List.length_take, List.getD_eq_getElem?_getD]
        congr 2; omega
      have hso := sort_ok (R.getD (0 + Int.toNat x) []) 3 none (by rw [hz, hRx]; exact hrow x)
      (repeat' (first
    | (intro Q h; refine h ?_; clear h Q)
    | (refine bcase_mk (fun hb => ?_) (fun hb => ?_) <;> (try simp only [nS, nT, eq_self, reduceCtorEq] at hb))
    | refine seq_go ?_
    | refine And.intro (by first | omega | ((try simp only [wS]); omega) | rfl | decide) ?_
    | ((apply call_take 2 [some 2] (hso)); (focus (first | rfl )); (focus (iterate 2 (all_goals (repeat' (first | exact subL_nil | exact trivial | (intro Q h; refine h ?_; clear h Q) | refine And.intro ?_ ?_ | refine subL_cons ?_ ?_ | exact sub_sl rfl rfl rfl | exact row_same rfl rfl rfl ))))); (any_goals (first | (apply nodup_mk; rfl) )))
    | (apply next_sub (Subtype.mk (x + 1) _); (focus (apply leg_mk [.put 1] [some 0, some 1]; (focus (iterate 3 (all_goals (repeat' (first | exact trivial | (intro Q h; refine h ?_; clear h Q) | refine And.intro ?_ ?_ | exact sub_sl rfl rfl rfl | exact sub_refl_val _ _ | exact row_same rfl rfl rfl | ((first | refine sub_int ?_ ); first | with_reducible rfl | omega | ((try simp only [wS]); omega) | rfl) ))))); (any_goals (apply okIx_mk; rfl)))); (all_goals (try (first | omega | (simp only; omega)))))
    | omega))
      · exact Nat.le_refl _
      · have hlr : R.length = n := by rw [← hR]; simp; omega
        refine fam_put (l := srt (R.getD x [])) ?_ ?_ ?_ rfl ?_
        · rw [hz]; refine row_ren rfl ?_ rfl
          rw [famF_fst, srt_len]
        · rw [hz, famF_fst, srt_len]
        · rw [hz, hRx, ← hR]; exact sortk rs x (by omega)
        · rw [hz, hlr]; exact hxn
    · (repeat' (first
    | (intro Q h; refine h ?_; clear h Q)
    | (refine bcase_mk (fun hb => ?_) (fun hb => ?_) <;> (try simp only [nS, nT, eq_self, reduceCtorEq] at hb))
    | refine seq_go ?_
    | refine And.intro (by first | omega | ((try simp only [wS]); omega) | rfl | decide) ?_
    | (apply ret_mk [some 0, some 1]; (focus (iterate 2 (all_goals (repeat' (first | exact trivial | (intro Q h; refine h ?_; clear h Q) | refine And.intro ?_ ?_ | exact sub_sl rfl rfl rfl | exact row_same rfl rfl rfl ))))); (any_goals (apply okIx_mk; rfl)))
    | omega))
      refine fam_same rfl rfl ?_
      rw [← hR, List.take_of_length_le (by omega), List.drop_of_length_le (by omega), List.append_nil]
      unfold nrF
      rw [hU]
end Go.Vx.L42

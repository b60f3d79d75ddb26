/- Lemmas of a small executor for the model, and contracts of functions, used for the law that this claim proves. No condition. -/
import Derived.Test.YtodbfpjjahpahaaDoorGB1
set_option linter.unusedSimpArgs false
set_option linter.unusedVariables false
set_option maxRecDepth 100000
namespace Go.Vx.L42
open Go Go.Proofs
/-- One neighbor that is met at a level. -/
def rlx (d : Int) (p : List Int × List Int) (x : Int) : List Int × List Int := if p.1.getD x.toNat 0 < 0 then (p.1.set x.toNat (d + 1), p.2 ++ [x]) else p
def lvR (rs : List (List Int)) (d : Int) (p : List Int × List Int) (a : Int) : List Int × List Int := (rs.getD a.toNat []).foldl (rlx d) p
/-- A level. -/
def lvF (rs : List (List Int)) (d : Int) (l : List Int) (D : List Int) : List Int × List Int := l.foldl (lvR rs d) (D, [])
def ngs (D : List Int) : Nat := D.countP fun x => decide (x < 0)
theorem ngs_le (D : List Int) : ngs D ≤ D.length := List.countP_le_length
theorem ngs_set : ∀ (D : List Int) (i : Nat) (v : Int), i < D.length → D.getD i 0 < 0 → 0 ≤ v → ngs (D.set i v) + 1 = ngs D
  | [], i, v, h, _, _ => by simp at h
  | x :: D, 0, v, _, h, hv => by
    have h : x < 0 := h
    have h2 : ¬ v < 0 := by omega
    simp [ngs, h, h2]
  | x :: D, i + 1, v, h, hx, hv => by
    have ih := ngs_set D i v (by simpa using h) hx hv
    unfold ngs at *
    simp only [List.set_cons_succ, List.countP_cons]
    omega
/-- What holds of a state of a level. -/
structure LvOK (n : Nat) (m : Nat) (p : List Int × List Int) : Prop where
  len : p.1.length = n
  cnt : ngs p.1 + p.2.length = m
  rng : ∀ x ∈ p.2, 0 ≤ x ∧ x < n
theorem rlx_ok {n m : Nat} {d : Int} {p : List Int × List Int} {x : Int} (h : LvOK n m p) (hd : 0 ≤ d) (hx : 0 ≤ x ∧ x < n) : LvOK n m (rlx d p x) := by
  unfold rlx
  split
  · rename_i hn
    refine ⟨by simp [h.len], ?_, fun y hy => ?_⟩
    · have := ngs_set p.1 x.toNat (d + 1) (by rw [h.len]; omega) hn (by omega)
      have := h.cnt
      simp only [List.length_append, List.length_cons, List.length_nil]; omega
    · simp only [List.mem_append, List.mem_singleton] at hy
      rcases hy with hy | rfl
      · exact h.rng y hy
      · exact hx
  · exact h
theorem fold_ok {n m : Nat} {d : Int} (hd : 0 ≤ d) : ∀ (l : List Int) (p : List Int × List Int), LvOK n m p → (∀ x ∈ l, 0 ≤ x ∧ x < (n : Int)) → LvOK n m (l.foldl (rlx d) p)
  | [], p, h, _ => h
  | x :: l, p, h, hl => fold_ok hd l _ (rlx_ok h hd (hl x (by simp))) fun y hy => hl y (by simp [hy])
def rowsIn (n : Nat) (rs : List (List Int)) : Prop := ∀ i, ∀ x ∈ rs.getD i [], 0 ≤ x ∧ x < (n : Int)
theorem lvR_ok {n m : Nat} {rs : List (List Int)} {d : Int} {p : List Int × List Int} {a : Int} (h : LvOK n m p) (hd : 0 ≤ d) (hr : rowsIn n rs) : LvOK n m (lvR rs d p a) := fold_ok hd _ _ h (hr a.toNat)
theorem lvs_ok {n m : Nat} {rs : List (List Int)} {d : Int} (hd : 0 ≤ d) (hr : rowsIn n rs) : ∀ (l : List Int) (p : List Int × List Int), LvOK n m p → LvOK n m (l.foldl (lvR rs d) p)
  | [], p, h => h
  | x :: l, p, h => lvs_ok hd hr l _ (lvR_ok h hd hr)
theorem foldl_take {α β : Type} (f : β → α → β) (b : β) (l : List α) (k : Nat) (d : α) (h : k < l.length) : (l.take (k + 1)).foldl f b = f ((l.take k).foldl f b) (l.getD k d) := by
  rw [List.take_add_one, List.getD_eq_getElem?_getD, List.getElem?_eq_getElem h, List.foldl_append]; rfl
/-- The distances behind all levels. -/
def bfs (rs : List (List Int)) : Nat → Int → List Int → List Int → List Int
  | 0, _, _, D => D
  | m + 1, d, l, D => if (lvF rs d l D).2.length = 0 then (lvF rs d l D).1 else bfs rs m (d + 1) (lvF rs d l D).2 (lvF rs d l D).1
abbrev nR (n : Nat) (rs : List (List Int)) : Blk := .fam false 58 3 1 n (famF intC 0 rs) none 0
abbrev vsL (n : Nat) (rs : List (List Int)) (l D : List Int) : List Blk := [iB false l, .var [.sl 4 1 0 n none], .var [.sl 5 1 0 n none], .var [.fn (.func 49) [.ptr 1 1 0 0, .ptr 2 1 0 0, .ptr 3 1 0 0]], nR n rs, iB true D]
set_option maxHeartbeats 1000000 in
theorem visit_ok (n : Nat) (hn : 1 ≤ n ∧ n ≤ 24) (rs : List (List Int)) (hr : rowsIn n rs) (hrl : rs.length = n) (hrow : ∀ i, (rs.getD i []).length ≤ 1000) : ∀ (m : Nat) (l D : List Int) (d : Int) (cap : Option Nat), ngs D < m → D.length = n → (∀ x ∈ l, 0 ≤ x ∧ x < (n : Int)) → l.length ≤ 1000 → 0 ≤ d → d + m ≤ 1000 →
    Runs Tryd.prog 49 [.sl 0 1 0 l.length cap, .val (.int .i64 d), .ptr 1 1 0 0, .ptr 2 1 0 0, .ptr 3 1 0 0] (vsL n rs l D) (Det (.tup []) (vsL n rs l (bfs rs m d l D)))
  | 0, l, D, d, cap, hm, _, _, _, _, _ => absurd hm (by omega)
  | m + 1, l, D, d, cap, hm, hD, hl, hll, hd, hdm => by
    have hmx : maxLen = 9223372036854775807 := by decide
    have base : LvOK n (ngs D) (D, []) := ⟨hD, rfl, fun x hx => by cases hx⟩
    have okK : ∀ k, LvOK n (ngs D) ((l.take k).foldl (lvR rs d) (D, [])) := fun k => lvs_ok hd hr _ _ base
    refine Runs.mk tabOK Tryd.call49 Tryd.func49 rfl Tryd.ntmps49 Tryd.results49 rfl ?_
    (repeat' (first
    | (intro Q h; refine h ?_; clear h Q)
    | refine seq_go ?_
    ))
    refine loop_inv (σ := Nat) (fun x => x ≤ l.length) (fun x => ⟨[(1, .val (.int .i64 d)), (2, .ptr 1 1 0 0), (3, .ptr 2 1 0 0), (4, .ptr 3 1 0 0), (7, .sl 6 1 0 ((l.take x).foldl (lvR rs d) (D, [])).2.length none), (12, .sl 0 1 0 l.length cap), (13, .val (.int .i64 l.length)), (14, .val (.int .i64 x))], [iB false l, .var [.sl 4 1 0 n none], .var [.sl 5 1 0 n none], .var [.fn (.func 49) [.ptr 1 1 0 0, .ptr 2 1 0 0, .ptr 3 1 0 0]], nR n rs, iB true ((l.take x).foldl (lvR rs d) (D, [])).1, iB true ((l.take x).foldl (lvR rs d) (D, [])).2]⟩) (fun x => l.length - x) (0) ?_ ?_ ?_
    · omega
    · (apply le_mk [some 0, some 1, some 2, some 3, some 4, some 5, none]; (focus (iterate 2 (all_goals (repeat' (first | exact fam_same rfl rfl rfl | exact subL_nil | exact trivial | (intro Q h; refine h ?_; clear h Q) | refine And.intro ?_ ?_ | refine subL_cons ?_ ?_ | refine sub_fn ?_ | refine var_mk ?_ | exact sub_ptr rfl rfl | exact sub_sl rfl rfl rfl | exact sub_refl_val _ _ | exact row_same rfl rfl rfl | exact sub_nil rfl | ((first | refine virt_mk ?_ ); first | with_reducible rfl | omega | ((try simp only [wS]); omega) | rfl) ))))); (any_goals (apply okIx_mk; rfl)))
    rintro k hk
    have hok := okK k
    by_cases hkl : k < l.length
    · have hS := foldl_take (lvR rs d) (D, []) l k 0 hkl
      have hz : 0 + Int.toNat k = k := by omega
      generalize (l.take k).foldl (lvR rs d) (D, []) = p at *
      have hx := hl (l.getD k 0) (getD_mem l k 0 hkl)
      generalize hX : l.getD k 0 = X at *
      have hX' : l.getD (0 + Int.toNat k) 0 = X := by rw [hz]; exact hX
      obtain ⟨a, rfl⟩ := Int.eq_ofNat_of_zero_le hx.1
      have hrr := hrow a
      have hra := hr a
      generalize hW : rs.getD a [] = W at *
      have hW' : (famF intC 0 rs a).1 = W.length := by rw [famF_fst, hW]
      have hW2 : (famF intC 0 rs a).2 = rowF intC 0 W := by rw [famF_snd, hW]
      (repeat' (first
    | (intro Q h; refine h ?_; clear h Q)
    | (refine bcase_mk (fun hb => ?_) (fun hb => ?_) <;> (try simp only [nS, nT, eq_self, reduceCtorEq] at hb))
    | refine seq_go ?_
    | refine And.intro (by first | omega | ((try simp only [wS]); omega) | rfl | decide) ?_
    | omega))
      refine loop_inv (σ := Nat) (fun x => x ≤ W.length) (fun x => ⟨[(1, .val (.int .i64 d)), (2, .ptr 1 1 0 0), (3, .ptr 2 1 0 0), (4, .ptr 3 1 0 0), (7, .sl 6 1 0 ((W.take x).foldl (rlx d) p).2.length none), (12, .sl 0 1 0 l.length cap), (13, .val (.int .i64 l.length)), (14, .val (.int .i64 k)), (21, .sl 7 1 0 W.length none), (22, .val (.int .i64 W.length)), (23, .val (.int .i64 x))], [iB false l, .var [.sl 4 1 0 n none], .var [.sl 5 1 0 n none], .var [.fn (.func 49) [.ptr 1 1 0 0, .ptr 2 1 0 0, .ptr 3 1 0 0]], nR n rs, iB true ((W.take x).foldl (rlx d) p).1, iB true ((W.take x).foldl (rlx d) p).2, .row 4 a]⟩) (fun x => W.length - x) (0) ?_ ?_ ?_
      · omega
      · (apply le_mk [some 0, some 1, some 2, some 3, some 4, some 5, some 6, some 7]; (focus (iterate 2 (all_goals (repeat' (first | exact fam_same rfl rfl rfl | (refine row_nm rfl ?_) | exact subL_nil | exact trivial | (intro Q h; refine h ?_; clear h Q) | refine And.intro ?_ ?_ | refine subL_cons ?_ ?_ | refine sub_fn ?_ | refine var_mk ?_ | exact sub_ptr rfl rfl | exact sub_sl rfl rfl rfl | exact sub_refl_val _ _ | exact row_same rfl rfl rfl | ((first | refine sub_int ?_ | refine sub_sl rfl rfl ?_ | show (_ : Nat) = _); first | with_reducible rfl | omega | ((try simp only [wS]); omega) | rfl) | refine sub_int ?_ | refine sub_sl rfl rfl ?_ ))))); (any_goals (apply okIx_mk; rfl)))
        all_goals (rw [hX', Int.toNat_natCast, Nat.zero_add, hW'])
      rintro j hj
      have hokj : LvOK n (ngs D) ((W.take j).foldl (rlx d) p) := fold_ok hd _ _ hok fun x hx => hra x (List.mem_of_mem_take hx)
      have hzj : 0 + Int.toNat j = j := by omega
      by_cases hjW : j < W.length
      · have hS2 := foldl_take (rlx d) p W j 0 hjW
        have hY := hra (W.getD j 0) (getD_mem W j 0 hjW)
        have hYe : (rs.getD a []).getD (0 + Int.toNat j) 0 = W.getD j 0 := by rw [hW, hzj]
        rw [← hYe] at hS2 hY
        generalize hq : (W.take j).foldl (rlx d) p = q at *
        have hneg : q.1.getD (0 + Int.toNat ((rs.getD a []).getD (0 + Int.toNat j) 0)) 0 < 0 → (W.take (j + 1)).foldl (rlx d) p = (q.1.set (0 + Int.toNat ((rs.getD a []).getD (0 + Int.toNat j) 0)) (d + 1), q.2 ++ [(rs.getD a []).getD (0 + Int.toNat j) 0]) := fun h => by
          simp only [Nat.zero_add] at h hS2 ⊢; rw [hS2]; unfold rlx; rw [if_pos h]
        have hpos : 0 ≤ q.1.getD (0 + Int.toNat ((rs.getD a []).getD (0 + Int.toNat j) 0)) 0 → (W.take (j + 1)).foldl (rlx d) p = q := fun h => by
          simp only [Nat.zero_add] at h hS2 ⊢; rw [hS2]; unfold rlx; rw [if_neg (by omega)]
        have hq1 := hokj.len
        have hq2 := hokj.cnt
        (repeat' (first
    | (intro Q h; refine h ?_; clear h Q)
    | (refine bcase_mk (fun hb => ?_) (fun hb => ?_) <;> (try simp only [nS, nT, eq_self, reduceCtorEq] at hb))
    | refine seq_go ?_
    | refine And.intro (by first | omega | ((try simp only [wS]); omega) | rfl | decide) ?_
    | (have e := hneg hb; (apply next_sub (Subtype.mk (j + 1) (by first | omega | (simp only; omega))); (focus (simp only [e]; apply le_mk [some 0, some 1, some 2, some 3, some 4, some 5, some 9, some 7]; (focus (iterate 2 (all_goals (repeat' (first | exact fam_same rfl rfl rfl | exact row_nm rfl rfl | (refine row_setl rfl (subL_cons (sub_int ?_) subL_nil) ?_ rfl rfl rfl) | exact subL_nil | exact trivial | (intro Q h; refine h ?_; clear h Q) | refine And.intro ?_ ?_ | refine subL_cons ?_ ?_ | refine sub_fn ?_ | refine var_mk ?_ | exact sub_ptr rfl rfl | exact sub_sl rfl rfl rfl | exact sub_refl_val _ _ | exact row_same rfl rfl rfl | ((first | refine sub_int ?_ | refine sub_sl rfl rfl ?_ | show (_ : Nat) = _); first | with_reducible rfl | omega | ((try simp only [wS]); omega) | rfl) | apply row_app1 | refine cells_succ ?_ ?_ | exact cell0 | with_reducible rfl | refine sub_sl rfl rfl ?_ ))))); (any_goals (apply okIx_mk; rfl)))); (all_goals (try (first | omega | (simp only; omega))))))
    | (have e := hpos hb; (apply next_sub (Subtype.mk (j + 1) (by first | omega | (simp only; omega))); (focus (simp only [e]; apply le_mk [some 0, some 1, some 2, some 3, some 4, some 5, some 6, some 7]; (focus (iterate 2 (all_goals (repeat' (first | exact fam_same rfl rfl rfl | exact row_nm rfl rfl | exact subL_nil | exact trivial | (intro Q h; refine h ?_; clear h Q) | refine And.intro ?_ ?_ | refine subL_cons ?_ ?_ | refine sub_fn ?_ | refine var_mk ?_ | exact sub_ptr rfl rfl | exact sub_sl rfl rfl rfl | exact sub_refl_val _ _ | exact row_same rfl rfl rfl | ((first | refine sub_int ?_ ); first | with_reducible rfl | omega | ((try simp only [wS]); omega) | rfl) ))))); (any_goals (apply okIx_mk; rfl)))); (all_goals (try (first | (simp only; omega))))))
    | omega))
        all_goals (try (simp only [List.length_append, List.length_cons, List.length_nil]; done))
        all_goals (try exact cwrap (by omega) (by omega))
      · have hjj : j = W.length := by omega
        subst hjj
        rw [List.take_length] at *
        have hS' : (l.take (k + 1)).foldl (lvR rs d) (D, []) = W.foldl (rlx d) p := by rw [hS]; unfold lvR; rw [Int.toNat_natCast, hW]
        (repeat' (first
    | (intro Q h; refine h ?_; clear h Q)
    | (refine bcase_mk (fun hb => ?_) (fun hb => ?_) <;> (try simp only [nS, nT, eq_self, reduceCtorEq] at hb))
    | refine seq_go ?_
    | refine And.intro (by first | omega | ((try simp only [wS]); omega) | rfl | decide) ?_
    | (apply next_sub (Subtype.mk (k + 1) (by first | omega | (simp only; omega))); (focus (simp only [hS']; apply le_mk [some 0, some 1, some 2, some 3, some 4, some 5, some 6]; (focus (iterate 2 (all_goals (repeat' (first | exact fam_same rfl rfl rfl | exact subL_nil | exact trivial | (intro Q h; refine h ?_; clear h Q) | refine And.intro ?_ ?_ | refine subL_cons ?_ ?_ | refine sub_fn ?_ | refine var_mk ?_ | exact sub_ptr rfl rfl | exact sub_sl rfl rfl rfl | exact sub_refl_val _ _ | exact row_same rfl rfl rfl | ((first | refine sub_int ?_ | refine sub_sl rfl rfl ?_ | show (_ : Nat) = _); first | with_reducible rfl | omega | ((try simp only [wS]); omega) | rfl) | refine row_same rfl ?_ ?_ ))))); (any_goals (apply okIx_mk; rfl)))); (all_goals (try (first | omega | (simp only; omega)))))
    ))
    · have hkk : k = l.length := by omega
      subst hkk
      rw [List.take_length] at hok
      rw [List.take_length]
      have hok : LvOK n (ngs D) (lvF rs d l D) := hok
      rw [show l.foldl (lvR rs d) (D, []) = lvF rs d l D from rfl]
      have hq1 := hok.len
      have hq2 := hok.cnt
      have hBF : bfs rs (m + 1) d l D = if (lvF rs d l D).2.length = 0 then (lvF rs d l D).1 else bfs rs m (d + 1) (lvF rs d l D).2 (lvF rs d l D).1 := rfl
      have hrg := hok.rng
      generalize lvF rs d l D = q at *
      have hle := ngs_le q.1
      by_cases h0 : q.2.length = 0
      · have e : bfs rs (m + 1) d l D = q.1 := by rw [hBF, if_pos h0]
        rw [e]
        (repeat' (first
    | (intro Q h; refine h ?_; clear h Q)
    | (refine bcase_mk (fun hb => ?_) (fun hb => ?_) <;> (try simp only [nS, nT, eq_self, reduceCtorEq] at hb))
    | refine seq_go ?_
    | refine And.intro (by first | omega | ((try simp only [wS]); omega) | rfl | decide) ?_
    | (apply ret_mk [some 0, some 1, some 2, some 3, some 4, some 5]; (focus (iterate 2 (all_goals (repeat' (first | exact fam_same rfl rfl rfl | exact subL_nil | exact trivial | (intro Q h; refine h ?_; clear h Q) | refine And.intro ?_ ?_ | refine subL_cons ?_ ?_ | refine sub_tup ?_ | refine sub_fn ?_ | refine var_mk ?_ | exact sub_ptr rfl rfl | exact sub_sl rfl rfl rfl | exact row_same rfl rfl rfl ))))); (any_goals (apply okIx_mk; rfl)))
    | omega))
      · have e : bfs rs (m + 1) d l D = bfs rs m (d + 1) q.2 q.1 := by rw [hBF, if_neg h0]
        rw [e]
        have ih := visit_ok n hn rs hr hrl hrow m q.2 q.1 (d + 1) none (by omega) hq1 hrg (by omega) (by omega) (by omega)
        (repeat' (first
    | (intro Q h; refine h ?_; clear h Q)
    | (refine bcase_mk (fun hb => ?_) (fun hb => ?_) <;> (try simp only [nS, nT, eq_self, reduceCtorEq] at hb))
    | refine seq_go ?_
    | refine And.intro (by first | omega | ((try simp only [wS]); omega) | rfl | decide) ?_
    | ((first | apply call_detx [some 6, some 1, some 2, some 3, some 4, some 5] (ih) ); (focus ((iterate 2 (all_goals (repeat' (first | exact fam_same rfl rfl rfl | exact subL_nil | exact trivial | (intro Q h; refine h ?_; clear h Q) | refine And.intro ?_ ?_ | refine subL_cons ?_ ?_ | refine sub_fn ?_ | refine var_mk ?_ | exact sub_ptr rfl rfl | exact sub_sl rfl rfl rfl | exact row_same rfl rfl rfl | ((first | refine sub_int ?_ ); first | with_reducible rfl | omega | ((try simp only [wS]); omega) | rfl) )))))); (any_goals (first | (apply nodup_mk; rfl) )))
    | (apply ret_mk [some 0, some 1, some 2, some 3, some 4, some 5]; (focus (iterate 2 (all_goals (repeat' (first | exact fam_same rfl rfl rfl | exact subL_nil | exact trivial | (intro Q h; refine h ?_; clear h Q) | refine And.intro ?_ ?_ | refine subL_cons ?_ ?_ | refine sub_tup ?_ | refine sub_fn ?_ | refine var_mk ?_ | exact sub_ptr rfl rfl | exact sub_sl rfl rfl rfl | exact row_same rfl rfl rfl | exact row_ren rfl rfl rfl | ((first | show (_ : Nat) = _); first | with_reducible rfl | omega | ((try simp only [wS]); omega) | rfl) | refine row_same rfl ?_ ?_ ))))); (any_goals (apply okIx_mk; rfl)))
    | omega))
end Go.Vx.L42

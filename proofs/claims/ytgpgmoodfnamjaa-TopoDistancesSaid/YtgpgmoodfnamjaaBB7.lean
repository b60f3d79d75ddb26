/- Lemmas of a small executor for the model, and contracts of functions, used for the law that this claim proves. No condition. -/
import Derived.Test.YtgpgmoodfnamjaaBB3
set_option linter.unusedSimpArgs false
set_option linter.unusedVariables false
set_option maxRecDepth 100000
namespace Go.Vx.L18
open Go Go.Proofs
/-- The components' numbers behind a visit. -/
def dfs (rs : List (List Int)) : Nat → Int → Int → List Int → List Int
  | 0, _, _, C => C
  | m + 1, v, f, C => if 0 ≤ C.getD v.toNat 0 then C else (rs.getD v.toNat []).foldl (fun C x => dfs rs m x f C) (C.set v.toNat f)
theorem dfs_fold {n : Nat} {g : List Int → Int → List Int} (hg : ∀ C x, C.length = n → 0 ≤ x → x < (n : Int) → (g C x).length = n ∧ ngs (g C x) ≤ ngs C) : ∀ (l : List Int) (C : List Int), C.length = n → (∀ x ∈ l, 0 ≤ x ∧ x < (n : Int)) → (l.foldl g C).length = n ∧ ngs (l.foldl g C) ≤ ngs C
  | [], C, h, _ => ⟨h, Nat.le_refl _⟩
  | x :: l, C, h, hl => by
    have h1 := hg C x h (hl x (by simp)).1 (hl x (by simp)).2
    have h2 := dfs_fold hg l (g C x) h1.1 fun y hy => hl y (by simp [hy])
    exact ⟨h2.1, Nat.le_trans h2.2 h1.2⟩
theorem dfs_len {n : Nat} {rs : List (List Int)} (hr : rowsIn n rs) {f : Int} (hf : 0 ≤ f) : ∀ (m : Nat) (v : Int) (C : List Int), C.length = n → 0 ≤ v → v < (n : Int) → (dfs rs m v f C).length = n ∧ ngs (dfs rs m v f C) ≤ ngs C
  | 0, _, _, h, _, _ => ⟨h, Nat.le_refl _⟩
  | m + 1, v, C, h, h0, h1 => by
    unfold dfs
    split
    · exact ⟨h, Nat.le_refl _⟩
    · rename_i hn
      have hs := ngs_set C v.toNat f (by omega) (by omega) hf
      have := dfs_fold (n := n) (g := fun C x => dfs rs m x f C) (fun C x hC x0 x1 => dfs_len hr hf m x C hC x0 x1) (rs.getD v.toNat []) (C.set v.toNat f) (by simp [h]) (hr v.toNat)
      exact ⟨this.1, by omega⟩
abbrev cmL (n : Nat) (rs : List (List Int)) (D : List Int) : List Blk := [.var [.sl 4 1 0 n none], .var [.sl 3 1 0 n none], .var [.fn (.func 43) [.ptr 0 1 0 0, .ptr 1 1 0 0, .ptr 2 1 0 0]], nR n rs, iB true D]
set_option maxHeartbeats 1000000 in
theorem visitC_ok (n : Nat) (hn : 1 ≤ n ∧ n ≤ 24) (rs : List (List Int)) (hr : rowsIn n rs) (hrl : rs.length = n) (hrow : ∀ i, (rs.getD i []).length ≤ 1000) (f : Nat) (hf : f < n) : ∀ (m : Nat) (v : Int) (C : List Int), ngs C < m → C.length = n → 0 ≤ v → v < (n : Int) →
    Runs Try.prog 43 [.val (.int .i64 v), .val (.int .i64 f), .ptr 0 1 0 0, .ptr 1 1 0 0, .ptr 2 1 0 0] (cmL n rs C) (Det (.tup []) (cmL n rs (dfs rs m v f C)))
  | 0, v, C, hm, _, _, _ => absurd hm (by omega)
  | m + 1, v, C, hm, hC, v0, v1 => by
    obtain ⟨v, rfl⟩ := Int.eq_ofNat_of_zero_le v0
    have hz : 0 + Int.toNat (v : Int) = v := by omega
    have hD : dfs rs (m + 1) (v : Int) f C = if 0 ≤ C.getD v 0 then C else (rs.getD v []).foldl (fun C x => dfs rs m x f C) (C.set v f) := rfl
    rw [hD]
    have hrr := hrow v
    have hra := hr v
    generalize hW : rs.getD v [] = W at *
    have hW' : (famF intC 0 rs v).1 = W.length := by rw [famF_fst, hW]
    have hW2 : (famF intC 0 rs v).2 = rowF intC 0 W := by rw [famF_snd, hW]
    by_cases hc : 0 ≤ C.getD v 0
    · rw [if_pos hc]
      rw [← hz] at hc
      refine Runs.mk tabOK Try.call43 Try.func43 rfl Try.ntmps43 Try.results43 rfl ?_
      (repeat' (first
    | (intro Q h; refine h ?_; clear h Q)
    | (with_reducible refine bcase_true ?_)
    | (with_reducible refine bcase_false ?_)
    | (refine bcase_mk (fun hb => ?_) (fun hb => ?_) <;> (try simp only [nS, nT, eq_self, reduceCtorEq] at hb))
    | refine nil_mk (fun hz => ?_) ?_
    | refine draw_mk (by decide +kernel) ?_
    | refine seq_go ?_
    | refine And.intro (by first | omega | ((try simp only [wS]); omega) | rfl | decide) ?_
    | (apply ret_mk [some 0, some 1, some 2, some 3, some 4]; (focus (iterate 2 (all_goals (repeat' (first | exact sub_dead | exact fam_same rfl rfl rfl | exact fam_rd rfl rfl | exact fam_ren rfl rfl rfl | exact row_nm rfl rfl | (refine row_nm rfl ?_) | (refine row_setr rfl (subL_cons (sub_int ?_) subL_nil) ?_ rfl rfl rfl) | (refine row_setl rfl (subL_cons (sub_int ?_) subL_nil) ?_ rfl rfl rfl) | exact subL_nil | exact trivial | (intro Q h; refine h ?_; clear h Q) | refine And.intro ?_ ?_ | refine subL_cons ?_ ?_ | refine sub_agg ?_ | refine sub_tup ?_ | refine sub_fn ?_ | refine sub_bfn ?_ ?_ | refine var_mk ?_ | refine rd_var ?_ rfl | refine rd_rd ?_ | exact sub_ptr rfl rfl | exact sub_sl rfl rfl rfl | exact sub_refl_val _ _ | exact sub_sb rfl | exact sub_sbl rfl | exact row_same rfl rfl rfl | exact row_ren rfl rfl rfl | exact sub_nil rfl | ((first | refine sub_int ?_ | refine sub_sl rfl rfl ?_ | refine sub_nil ?_ | refine virt_mk ?_ | show (_ : Nat) = _); first | with_reducible rfl | omega | ((try simp only [wS]); omega) | rfl) | apply row_app1 | apply row_app2 | apply row_app1r | refine cells_succ ?_ ?_ | exact cell0 | with_reducible rfl | (refine And.left (b := True) ⟨?_, True.intro⟩; assumption) | refine sub_int ?_ | refine sub_sb ?_ | refine sub_sbl ?_ | refine sub_sl rfl rfl ?_ | (apply row_lit rfl; (focus (refine cells_succ ?_ ?_))) | refine row_same rfl ?_ ?_ | refine row_ren rfl ?_ ?_))))); (any_goals (apply okIx_mk; rfl)))
    | omega))
    · rw [if_neg hc]
      have hs := ngs_set C v (f : Int) (by omega) (by omega) (by omega)
      have hC1 : (C.set v (f : Int)).length = n := by simp [hC]
      have hC1e : C.set v (f : Int) = C.set (0 + Int.toNat (v : Int)) f := by rw [hz]
      have hfold : ∀ k, ((W.take k).foldl (fun C x => dfs rs m x f C) (C.set v f)).length = n ∧ ngs ((W.take k).foldl (fun C x => dfs rs m x f C) (C.set v f)) ≤ ngs (C.set v (f : Int)) := fun k =>
        dfs_fold (n := n) (g := fun C x => dfs rs m x f C) (fun C x hC x0 x1 => dfs_len hr (by omega) m x C hC x0 x1) _ _ hC1 fun x hx => hra x (List.mem_of_mem_take hx)
      have hstep := fun k (hk : k < W.length) => foldl_take (fun C x => dfs rs m x f C) (C.set v (f : Int)) W k 0 hk
      rw [← hz] at hc
      refine Runs.mk tabOK Try.call43 Try.func43 rfl Try.ntmps43 Try.results43 rfl ?_
      (repeat' (first
    | (intro Q h; refine h ?_; clear h Q)
    | (with_reducible refine bcase_true ?_)
    | (with_reducible refine bcase_false ?_)
    | (refine bcase_mk (fun hb => ?_) (fun hb => ?_) <;> (try simp only [nS, nT, eq_self, reduceCtorEq] at hb))
    | refine nil_mk (fun hz => ?_) ?_
    | refine draw_mk (by decide +kernel) ?_
    | refine seq_go ?_
    | refine And.intro (by first | omega | ((try simp only [wS]); omega) | rfl | decide) ?_
    | (fail)
    | omega))
      refine loop_inv (σ := Nat) (fun x => x ≤ W.length) (fun x => ⟨[(1, .val (.int .i64 f)), (4, .ptr 2 1 0 0), (21, .sl 5 1 0 W.length none), (22, .val (.int .i64 W.length)), (23, .val (.int .i64 x))], [.var [.sl 4 1 0 n none], .var [.sl 3 1 0 n none], .var [.fn (.func 43) [.ptr 0 1 0 0, .ptr 1 1 0 0, .ptr 2 1 0 0]], nR n rs, iB true ((W.take x).foldl (fun C x => dfs rs m x f C) (C.set v f)), .row 3 v]⟩) (fun x => W.length - x) (0) ?_ ?_ ?_
      · omega
      · (apply le_mk [some 0, some 1, some 2, some 3, some 4, some 5]; (focus (iterate 2 (all_goals (repeat' (first | exact sub_dead | exact fam_same rfl rfl rfl | exact fam_rd rfl rfl | exact fam_ren rfl rfl rfl | exact row_nm rfl rfl | (refine row_nm rfl ?_) | (refine row_setr rfl (subL_cons (sub_int ?_) subL_nil) ?_ rfl rfl rfl) | (refine row_setl rfl (subL_cons (sub_int ?_) subL_nil) ?_ rfl rfl rfl) | exact subL_nil | exact trivial | (intro Q h; refine h ?_; clear h Q) | refine And.intro ?_ ?_ | refine subL_cons ?_ ?_ | refine sub_agg ?_ | refine sub_tup ?_ | refine sub_fn ?_ | refine sub_bfn ?_ ?_ | refine var_mk ?_ | refine rd_var ?_ rfl | refine rd_rd ?_ | exact sub_ptr rfl rfl | exact sub_sl rfl rfl rfl | exact sub_refl_val _ _ | exact sub_sb rfl | exact sub_sbl rfl | exact row_same rfl rfl rfl | exact row_ren rfl rfl rfl | exact sub_nil rfl | ((first | refine sub_int ?_ | refine sub_sl rfl rfl ?_ | refine sub_nil ?_ | refine virt_mk ?_ | show (_ : Nat) = _); first | with_reducible rfl | omega | ((try simp only [wS]); omega) | rfl) | apply row_app1 | apply row_app2 | apply row_app1r | refine cells_succ ?_ ?_ | exact cell0 | with_reducible rfl | (refine And.left (b := True) ⟨?_, True.intro⟩; assumption) | refine sub_int ?_ | refine sub_sb ?_ | refine sub_sbl ?_ | refine sub_sl rfl rfl ?_ | (apply row_lit rfl; (focus (refine cells_succ ?_ ?_))) | refine row_same rfl ?_ ?_ | refine row_ren rfl ?_ ?_))))); (any_goals (apply okIx_mk; rfl)))
        all_goals (first | (rw [hz, hW']; done) | (rw [List.take_zero, List.foldl_nil, hC1e]; refine row_setl rfl (subL_cons (sub_refl_val _ _) subL_nil) ?_ rfl rfl ?_ <;> first | omega | rfl) | fail)
      rintro k hk
      have hfk := hfold k
      have hzk : 0 + Int.toNat k = k := by omega
      by_cases hkl : k < W.length
      · have hS := hstep k hkl
        have hx := hra (W.getD k 0) (getD_mem W k 0 hkl)
        have hXe : (rs.getD v []).getD (0 + Int.toNat k) 0 = W.getD k 0 := by rw [hW, hzk]
        rw [← hXe] at hS hx
        generalize (W.take k).foldl (fun C x => dfs rs m x f C) (C.set v f) = Q at *
        have ih := visitC_ok n hn rs hr hrl hrow f hf m ((rs.getD v []).getD (0 + Int.toNat k) 0) Q (by omega) hfk.1 hx.1 hx.2
        (repeat' (first
    | (intro Q h; refine h ?_; clear h Q)
    | (with_reducible refine bcase_true ?_)
    | (with_reducible refine bcase_false ?_)
    | (refine bcase_mk (fun hb => ?_) (fun hb => ?_) <;> (try simp only [nS, nT, eq_self, reduceCtorEq] at hb))
    | refine nil_mk (fun hz => ?_) ?_
    | refine draw_mk (by decide +kernel) ?_
    | refine seq_go ?_
    | refine And.intro (by first | omega | ((try simp only [wS]); omega) | rfl | decide) ?_
    | ((first | apply call_detx [some 0, some 1, some 2, some 3, some 4] (ih) | apply calld_detx [some 0, some 1, some 2, some 3, some 4] (ih)); (focus ((iterate 2 (all_goals (repeat' (first | exact sub_dead | exact fam_same rfl rfl rfl | exact fam_rd rfl rfl | exact fam_ren rfl rfl rfl | exact row_nm rfl rfl | (refine row_nm rfl ?_) | (refine row_setr rfl (subL_cons (sub_int ?_) subL_nil) ?_ rfl rfl rfl) | (refine row_setl rfl (subL_cons (sub_int ?_) subL_nil) ?_ rfl rfl rfl) | exact subL_nil | exact trivial | (intro Q h; refine h ?_; clear h Q) | refine And.intro ?_ ?_ | refine subL_cons ?_ ?_ | refine sub_agg ?_ | refine sub_tup ?_ | refine sub_fn ?_ | refine sub_bfn ?_ ?_ | refine var_mk ?_ | refine rd_var ?_ rfl | refine rd_rd ?_ | exact sub_ptr rfl rfl | exact sub_sl rfl rfl rfl | exact sub_refl_val _ _ | exact sub_sb rfl | exact sub_sbl rfl | exact row_same rfl rfl rfl | exact row_ren rfl rfl rfl | exact sub_nil rfl | ((first | refine sub_int ?_ | refine sub_sl rfl rfl ?_ | refine sub_nil ?_ | refine virt_mk ?_ | show (_ : Nat) = _); first | with_reducible rfl | omega | ((try simp only [wS]); omega) | rfl) | apply row_app1 | apply row_app2 | apply row_app1r | refine cells_succ ?_ ?_ | exact cell0 | with_reducible rfl | (refine And.left (b := True) ⟨?_, True.intro⟩; assumption) | refine sub_int ?_ | refine sub_sb ?_ | refine sub_sbl ?_ | refine sub_sl rfl rfl ?_ | (apply row_lit rfl; (focus (refine cells_succ ?_ ?_))) | refine row_same rfl ?_ ?_ | refine row_ren rfl ?_ ?_)))))); (any_goals (first | (apply nodup_mk; rfl) | (apply nodup_mk2; rfl) | (apply nodup_mk3; rfl))))
    | (apply next_sub (Subtype.mk (k + 1) (by first | omega | (simp only; omega))); (focus (rw [hS]; apply le_mk [some 0, some 1, some 2, some 3, some 4, some 5]; (focus (iterate 2 (all_goals (repeat' (first | exact sub_dead | exact fam_same rfl rfl rfl | exact fam_rd rfl rfl | exact fam_ren rfl rfl rfl | exact row_nm rfl rfl | (refine row_nm rfl ?_) | (refine row_setr rfl (subL_cons (sub_int ?_) subL_nil) ?_ rfl rfl rfl) | (refine row_setl rfl (subL_cons (sub_int ?_) subL_nil) ?_ rfl rfl rfl) | exact subL_nil | exact trivial | (intro Q h; refine h ?_; clear h Q) | refine And.intro ?_ ?_ | refine subL_cons ?_ ?_ | refine sub_agg ?_ | refine sub_tup ?_ | refine sub_fn ?_ | refine sub_bfn ?_ ?_ | refine var_mk ?_ | refine rd_var ?_ rfl | refine rd_rd ?_ | exact sub_ptr rfl rfl | exact sub_sl rfl rfl rfl | exact sub_refl_val _ _ | exact sub_sb rfl | exact sub_sbl rfl | exact row_same rfl rfl rfl | exact row_ren rfl rfl rfl | exact sub_nil rfl | ((first | refine sub_int ?_ | refine sub_sl rfl rfl ?_ | refine sub_nil ?_ | refine virt_mk ?_ | show (_ : Nat) = _); first | with_reducible rfl | omega | ((try simp only [wS]); omega) | rfl) | apply row_app1 | apply row_app2 | apply row_app1r | refine cells_succ ?_ ?_ | exact cell0 | with_reducible rfl | (refine And.left (b := True) ⟨?_, True.intro⟩; assumption) | refine sub_int ?_ | refine sub_sb ?_ | refine sub_sbl ?_ | refine sub_sl rfl rfl ?_ | (apply row_lit rfl; (focus (refine cells_succ ?_ ?_))) | refine row_same rfl ?_ ?_ | refine row_ren rfl ?_ ?_))))); (any_goals (apply okIx_mk; rfl)))); (all_goals (try (first | omega | (simp only; omega)))))
    | omega))
      · have hkk : k = W.length := by omega
        subst hkk
        rw [List.take_length]
        (repeat' (first
    | (intro Q h; refine h ?_; clear h Q)
    | (with_reducible refine bcase_true ?_)
    | (with_reducible refine bcase_false ?_)
    | (refine bcase_mk (fun hb => ?_) (fun hb => ?_) <;> (try simp only [nS, nT, eq_self, reduceCtorEq] at hb))
    | refine nil_mk (fun hz => ?_) ?_
    | refine draw_mk (by decide +kernel) ?_
    | refine seq_go ?_
    | refine And.intro (by first | omega | ((try simp only [wS]); omega) | rfl | decide) ?_
    | (apply ret_mk [some 0, some 1, some 2, some 3, some 4]; (focus (iterate 2 (all_goals (repeat' (first | exact sub_dead | exact fam_same rfl rfl rfl | exact fam_rd rfl rfl | exact fam_ren rfl rfl rfl | exact row_nm rfl rfl | (refine row_nm rfl ?_) | (refine row_setr rfl (subL_cons (sub_int ?_) subL_nil) ?_ rfl rfl rfl) | (refine row_setl rfl (subL_cons (sub_int ?_) subL_nil) ?_ rfl rfl rfl) | exact subL_nil | exact trivial | (intro Q h; refine h ?_; clear h Q) | refine And.intro ?_ ?_ | refine subL_cons ?_ ?_ | refine sub_agg ?_ | refine sub_tup ?_ | refine sub_fn ?_ | refine sub_bfn ?_ ?_ | refine var_mk ?_ | refine rd_var ?_ rfl | refine rd_rd ?_ | exact sub_ptr rfl rfl | exact sub_sl rfl rfl rfl | exact sub_refl_val _ _ | exact sub_sb rfl | exact sub_sbl rfl | exact row_same rfl rfl rfl | exact row_ren rfl rfl rfl | exact sub_nil rfl | ((first | refine sub_int ?_ | refine sub_sl rfl rfl ?_ | refine sub_nil ?_ | refine virt_mk ?_ | show (_ : Nat) = _); first | with_reducible rfl | omega | ((try simp only [wS]); omega) | rfl) | apply row_app1 | apply row_app2 | apply row_app1r | refine cells_succ ?_ ?_ | exact cell0 | with_reducible rfl | (refine And.left (b := True) ⟨?_, True.intro⟩; assumption) | refine sub_int ?_ | refine sub_sb ?_ | refine sub_sbl ?_ | refine sub_sl rfl rfl ?_ | (apply row_lit rfl; (focus (refine cells_succ ?_ ?_))) | refine row_same rfl ?_ ?_ | refine row_ren rfl ?_ ?_))))); (any_goals (apply okIx_mk; rfl)))
    | omega))
/-- The components' numbers behind the visits from the first nodes. -/
def csF (n : Nat) (rs : List (List Int)) : Nat → List Int
  | 0 => List.replicate n (-1)
  | k + 1 => dfs rs (n + 1) k k (csF n rs k)
theorem csF_len {n : Nat} {rs : List (List Int)} (hr : rowsIn n rs) : ∀ k, k ≤ n → (csF n rs k).length = n ∧ ngs (csF n rs k) ≤ n
  | 0, _ => ⟨by simp [csF], by rw [csF, ngs_rep]; exact Nat.le_refl _⟩
  | k + 1, hk => by
    have ih := csF_len hr k (by omega)
    have := dfs_len hr (f := k) (by omega) (n + 1) k (csF n rs k) ih.1 (by omega) (by omega)
    exact ⟨this.1, by unfold csF; omega⟩
def cpF (n : Nat) (l : List Ed) : List Int := csF n (nrF n l) n
def cpA (n : Int) (l : List Ed) : List Int := if ckC n l = 0 then cpF n.toNat l else []
set_option maxHeartbeats 1000000 in
theorem comp_ok (n : Int) (l : List Ed) (cap : Option Nat) (hl : l.length ≤ maxLen) :
    Runs Try.prog 17 [gA n l cap] [gB l] (Det (.sl 1 1 0 (cpA n l).length none) [gB l, iB true (cpA n l)]) := by
  have h1 := check_ok n l cap hl
  by_cases hc : ckC n l = 0
  rotate_left
  · have e : cpA n l = [] := if_neg hc
    rw [e]
    refine Runs.mk tabOK Try.call17 Try.func17 rfl Try.ntmps17 Try.results17 rfl ?_
    (repeat' (first
    | (intro Q h; refine h ?_; clear h Q)
    | (with_reducible refine bcase_true ?_)
    | (with_reducible refine bcase_false ?_)
    | (refine bcase_mk (fun hb => ?_) (fun hb => ?_) <;> (try simp only [nS, nT, eq_self, reduceCtorEq] at hb))
    | refine nil_mk (fun hz => ?_) ?_
    | refine draw_mk (by decide +kernel) ?_
    | refine seq_go ?_
    | refine And.intro (by first | omega | ((try simp only [wS]); omega) | rfl | decide) ?_
    | ((first | apply call1 (h1) | apply calld1 (h1)); (focus (iterate 2 (all_goals (repeat' (first | exact sub_dead | exact fam_same rfl rfl rfl | exact fam_rd rfl rfl | exact fam_ren rfl rfl rfl | exact row_nm rfl rfl | (refine row_nm rfl ?_) | (refine row_setr rfl (subL_cons (sub_int ?_) subL_nil) ?_ rfl rfl rfl) | (refine row_setl rfl (subL_cons (sub_int ?_) subL_nil) ?_ rfl rfl rfl) | exact subL_nil | exact trivial | (intro Q h; refine h ?_; clear h Q) | refine And.intro ?_ ?_ | refine subL_cons ?_ ?_ | refine sub_agg ?_ | refine sub_tup ?_ | refine sub_fn ?_ | refine sub_bfn ?_ ?_ | refine var_mk ?_ | refine rd_var ?_ rfl | refine rd_rd ?_ | exact sub_ptr rfl rfl | exact sub_sl rfl rfl rfl | exact sub_refl_val _ _ | exact sub_sb rfl | exact sub_sbl rfl | exact row_same rfl rfl rfl | exact row_ren rfl rfl rfl | exact sub_nil rfl | ((first | refine sub_int ?_ | refine sub_sl rfl rfl ?_ | refine sub_nil ?_ | refine virt_mk ?_ | show (_ : Nat) = _); first | with_reducible rfl | omega | ((try simp only [wS]); omega) | rfl) | apply row_app1 | apply row_app2 | apply row_app1r | refine cells_succ ?_ ?_ | exact cell0 | with_reducible rfl | (refine And.left (b := True) ⟨?_, True.intro⟩; assumption) | refine sub_int ?_ | refine sub_sb ?_ | refine sub_sbl ?_ | refine sub_sl rfl rfl ?_ | (apply row_lit rfl; (focus (refine cells_succ ?_ ?_))) | refine row_same rfl ?_ ?_ | refine row_ren rfl ?_ ?_))))); (try (any_goals (first | (apply nodup_mk; rfl) | (apply nodup_mk2; rfl) | (apply nodup_mk3; rfl)))))
    | (apply ret_mk [some 0, none]; (focus (iterate 2 (all_goals (repeat' (first | exact sub_dead | exact fam_same rfl rfl rfl | exact fam_rd rfl rfl | exact fam_ren rfl rfl rfl | exact row_nm rfl rfl | (refine row_nm rfl ?_) | (refine row_setr rfl (subL_cons (sub_int ?_) subL_nil) ?_ rfl rfl rfl) | (refine row_setl rfl (subL_cons (sub_int ?_) subL_nil) ?_ rfl rfl rfl) | exact subL_nil | exact trivial | (intro Q h; refine h ?_; clear h Q) | refine And.intro ?_ ?_ | refine subL_cons ?_ ?_ | refine sub_agg ?_ | refine sub_tup ?_ | refine sub_fn ?_ | refine sub_bfn ?_ ?_ | refine var_mk ?_ | refine rd_var ?_ rfl | refine rd_rd ?_ | exact sub_ptr rfl rfl | exact sub_sl rfl rfl rfl | exact sub_refl_val _ _ | exact sub_sb rfl | exact sub_sbl rfl | exact row_same rfl rfl rfl | exact row_ren rfl rfl rfl | exact sub_nil rfl | ((first | refine sub_int ?_ | refine sub_sl rfl rfl ?_ | refine sub_nil ?_ | refine virt_mk ?_ | show (_ : Nat) = _); first | with_reducible rfl | omega | ((try simp only [wS]); omega) | rfl) | apply row_app1 | apply row_app2 | apply row_app1r | refine cells_succ ?_ ?_ | exact cell0 | with_reducible rfl | (refine And.left (b := True) ⟨?_, True.intro⟩; assumption) | refine sub_int ?_ | refine sub_sb ?_ | refine sub_sbl ?_ | refine sub_sl rfl rfl ?_ | (apply row_lit rfl; (focus (refine cells_succ ?_ ?_))) | refine row_same rfl ?_ ?_ | refine row_ren rfl ?_ ?_))))); (any_goals (apply okIx_mk; rfl)))
    | omega))
  have e : cpA n l = cpF n.toNat l := if_pos hc
  rw [e]
  rw [hc] at h1
  obtain ⟨m, rfl, hm, hl64, hed⟩ := ckC_parts hc
  simp only [Int.toNat_natCast]
  have hnb := neighbors_ok m l cap hm hl64 fun k hk => hed _ (getD_mem l k ed0 hk)
  have hun := unknown_ok m hm.1 (by omega) l cap
  have hin := nrF_in hed
  have hlen := nrF_len m l
  have hrow := nrF_row m l hl64
  have hcl := fun k hk => csF_len hin k hk
  unfold cpF
  have h0 : csF m (nrF m l) 0 = List.replicate m (-1) := rfl
  have hS : ∀ k, csF m (nrF m l) (k + 1) = dfs (nrF m l) (m + 1) k k (csF m (nrF m l) k) := fun _ => rfl
  rw [← h0] at hun
  generalize nrF m l = R at *
  refine Runs.mk tabOK Try.call17 Try.func17 rfl Try.ntmps17 Try.results17 rfl ?_
  (repeat' (first
    | (intro Q h; refine h ?_; clear h Q)
    | (with_reducible refine bcase_true ?_)
    | (with_reducible refine bcase_false ?_)
    | (refine bcase_mk (fun hb => ?_) (fun hb => ?_) <;> (try simp only [nS, nT, eq_self, reduceCtorEq] at hb))
    | refine nil_mk (fun hz => ?_) ?_
    | refine draw_mk (by decide +kernel) ?_
    | refine seq_go ?_
    | refine And.intro (by first | omega | ((try simp only [wS]); omega) | rfl | decide) ?_
    | ((first | apply call1 (h1) | apply calld1 (h1)); (focus ((iterate 2 (all_goals (repeat' (first | exact sub_dead | exact fam_same rfl rfl rfl | exact fam_rd rfl rfl | exact fam_ren rfl rfl rfl | exact row_nm rfl rfl | (refine row_nm rfl ?_) | (refine row_setr rfl (subL_cons (sub_int ?_) subL_nil) ?_ rfl rfl rfl) | (refine row_setl rfl (subL_cons (sub_int ?_) subL_nil) ?_ rfl rfl rfl) | exact subL_nil | exact trivial | (intro Q h; refine h ?_; clear h Q) | refine And.intro ?_ ?_ | refine subL_cons ?_ ?_ | refine sub_agg ?_ | refine sub_tup ?_ | refine sub_fn ?_ | refine sub_bfn ?_ ?_ | refine var_mk ?_ | refine rd_var ?_ rfl | refine rd_rd ?_ | exact sub_ptr rfl rfl | exact sub_sl rfl rfl rfl | exact sub_refl_val _ _ | exact sub_sb rfl | exact sub_sbl rfl | exact row_same rfl rfl rfl | exact row_ren rfl rfl rfl | exact sub_nil rfl | ((first | refine sub_int ?_ | refine sub_sl rfl rfl ?_ | refine sub_nil ?_ | refine virt_mk ?_ | show (_ : Nat) = _); first | with_reducible rfl | omega | ((try simp only [wS]); omega) | rfl) | apply row_app1 | apply row_app2 | apply row_app1r | refine cells_succ ?_ ?_ | exact cell0 | with_reducible rfl | (refine And.left (b := True) ⟨?_, True.intro⟩; assumption) | refine sub_int ?_ | refine sub_sb ?_ | refine sub_sbl ?_ | refine sub_sl rfl rfl ?_ | (apply row_lit rfl; (focus (refine cells_succ ?_ ?_))) | refine row_same rfl ?_ ?_ | refine row_ren rfl ?_ ?_)))); done)); (try (any_goals (first | (apply nodup_mk; rfl) | (apply nodup_mk2; rfl) | (apply nodup_mk3; rfl)))))
    | ((first | apply call1 (hnb) | apply calld1 (hnb)); (focus ((iterate 2 (all_goals (repeat' (first | exact sub_dead | exact fam_same rfl rfl rfl | exact fam_rd rfl rfl | exact fam_ren rfl rfl rfl | exact row_nm rfl rfl | (refine row_nm rfl ?_) | (refine row_setr rfl (subL_cons (sub_int ?_) subL_nil) ?_ rfl rfl rfl) | (refine row_setl rfl (subL_cons (sub_int ?_) subL_nil) ?_ rfl rfl rfl) | exact subL_nil | exact trivial | (intro Q h; refine h ?_; clear h Q) | refine And.intro ?_ ?_ | refine subL_cons ?_ ?_ | refine sub_agg ?_ | refine sub_tup ?_ | refine sub_fn ?_ | refine sub_bfn ?_ ?_ | refine var_mk ?_ | refine rd_var ?_ rfl | refine rd_rd ?_ | exact sub_ptr rfl rfl | exact sub_sl rfl rfl rfl | exact sub_refl_val _ _ | exact sub_sb rfl | exact sub_sbl rfl | exact row_same rfl rfl rfl | exact row_ren rfl rfl rfl | exact sub_nil rfl | ((first | refine sub_int ?_ | refine sub_sl rfl rfl ?_ | refine sub_nil ?_ | refine virt_mk ?_ | show (_ : Nat) = _); first | with_reducible rfl | omega | ((try simp only [wS]); omega) | rfl) | apply row_app1 | apply row_app2 | apply row_app1r | refine cells_succ ?_ ?_ | exact cell0 | with_reducible rfl | (refine And.left (b := True) ⟨?_, True.intro⟩; assumption) | refine sub_int ?_ | refine sub_sb ?_ | refine sub_sbl ?_ | refine sub_sl rfl rfl ?_ | (apply row_lit rfl; (focus (refine cells_succ ?_ ?_))) | refine row_same rfl ?_ ?_ | refine row_ren rfl ?_ ?_)))); done)); (try (any_goals (first | (apply nodup_mk; rfl) | (apply nodup_mk2; rfl) | (apply nodup_mk3; rfl)))))
    | ((first | apply call1 (hun) | apply calld1 (hun)); (focus ((iterate 2 (all_goals (repeat' (first | exact sub_dead | exact fam_same rfl rfl rfl | exact fam_rd rfl rfl | exact fam_ren rfl rfl rfl | exact row_nm rfl rfl | (refine row_nm rfl ?_) | (refine row_setr rfl (subL_cons (sub_int ?_) subL_nil) ?_ rfl rfl rfl) | (refine row_setl rfl (subL_cons (sub_int ?_) subL_nil) ?_ rfl rfl rfl) | exact subL_nil | exact trivial | (intro Q h; refine h ?_; clear h Q) | refine And.intro ?_ ?_ | refine subL_cons ?_ ?_ | refine sub_agg ?_ | refine sub_tup ?_ | refine sub_fn ?_ | refine sub_bfn ?_ ?_ | refine var_mk ?_ | refine rd_var ?_ rfl | refine rd_rd ?_ | exact sub_ptr rfl rfl | exact sub_sl rfl rfl rfl | exact sub_refl_val _ _ | exact sub_sb rfl | exact sub_sbl rfl | exact row_same rfl rfl rfl | exact row_ren rfl rfl rfl | exact sub_nil rfl | ((first | refine sub_int ?_ | refine sub_sl rfl rfl ?_ | refine sub_nil ?_ | refine virt_mk ?_ | show (_ : Nat) = _); first | with_reducible rfl | omega | ((try simp only [wS]); omega) | rfl) | apply row_app1 | apply row_app2 | apply row_app1r | refine cells_succ ?_ ?_ | exact cell0 | with_reducible rfl | (refine And.left (b := True) ⟨?_, True.intro⟩; assumption) | refine sub_int ?_ | refine sub_sb ?_ | refine sub_sbl ?_ | refine sub_sl rfl rfl ?_ | (apply row_lit rfl; (focus (refine cells_succ ?_ ?_))) | refine row_same rfl ?_ ?_ | refine row_ren rfl ?_ ?_)))); done)); (try (any_goals (first | (apply nodup_mk; rfl) | (apply nodup_mk2; rfl) | (apply nodup_mk3; rfl)))))
    | (fail)
    | omega))
  refine loop_inv (σ := Nat) (fun x => x ≤ m) (fun x => ⟨[(4, .ptr 5 1 0 0), (5, .ptr 6 1 0 0), (16, .val (.int .i64 m)), (17, .val (.int .i64 x))], [gB l, .var [.val (.int .i64 m), .sl 0 4 0 l.length cap], nB m R, iB true (csF m R x), .var [.sl 2 1 0 m none], .var [.sl 3 1 0 m none], .var [.fn (.func 43) [.ptr 5 1 0 0, .ptr 4 1 0 0, .ptr 6 1 0 0]]]⟩) (fun x => m - x) (0) ?_ ?_ ?_
  · omega
  · (apply le_mk [some 0, some 1, some 2, some 3, some 4, some 5, some 6]; (focus (iterate 2 (all_goals (repeat' (first | exact sub_dead | exact fam_same rfl rfl rfl | exact fam_rd rfl rfl | exact fam_ren rfl rfl rfl | exact row_nm rfl rfl | (refine row_nm rfl ?_) | (refine row_setr rfl (subL_cons (sub_int ?_) subL_nil) ?_ rfl rfl rfl) | (refine row_setl rfl (subL_cons (sub_int ?_) subL_nil) ?_ rfl rfl rfl) | exact subL_nil | exact trivial | (intro Q h; refine h ?_; clear h Q) | refine And.intro ?_ ?_ | refine subL_cons ?_ ?_ | refine sub_agg ?_ | refine sub_tup ?_ | refine sub_fn ?_ | refine sub_bfn ?_ ?_ | refine var_mk ?_ | refine rd_var ?_ rfl | refine rd_rd ?_ | exact sub_ptr rfl rfl | exact sub_sl rfl rfl rfl | exact sub_refl_val _ _ | exact sub_sb rfl | exact sub_sbl rfl | exact row_same rfl rfl rfl | exact row_ren rfl rfl rfl | exact sub_nil rfl | ((first | refine sub_int ?_ | refine sub_sl rfl rfl ?_ | refine sub_nil ?_ | refine virt_mk ?_ | show (_ : Nat) = _); first | with_reducible rfl | omega | ((try simp only [wS]); omega) | rfl) | apply row_app1 | apply row_app2 | apply row_app1r | refine cells_succ ?_ ?_ | exact cell0 | with_reducible rfl | (refine And.left (b := True) ⟨?_, True.intro⟩; assumption) | refine sub_int ?_ | refine sub_sb ?_ | refine sub_sbl ?_ | refine sub_sl rfl rfl ?_ | (apply row_lit rfl; (focus (refine cells_succ ?_ ?_))) | refine row_same rfl ?_ ?_ | refine row_ren rfl ?_ ?_))))); (any_goals (apply okIx_mk; rfl)))
  rintro k hk
  have hck := hcl k hk
  by_cases hkm : k < m
  · have hSk := hS k
    generalize csF m R k = Q at *
    have hv := visitC_ok m hm R hin hlen hrow k hkm (m + 1) k Q (by omega) hck.1 (by omega) (by omega)
    (repeat' (first
    | (intro Q h; refine h ?_; clear h Q)
    | (with_reducible refine bcase_true ?_)
    | (with_reducible refine bcase_false ?_)
    | (refine bcase_mk (fun hb => ?_) (fun hb => ?_) <;> (try simp only [nS, nT, eq_self, reduceCtorEq] at hb))
    | refine nil_mk (fun hz => ?_) ?_
    | refine draw_mk (by decide +kernel) ?_
    | refine seq_go ?_
    | refine And.intro (by first | omega | ((try simp only [wS]); omega) | rfl | decide) ?_
    | ((first | apply call_detx [some 5, some 4, some 6, some 2, some 3] (hv) | apply calld_detx [some 5, some 4, some 6, some 2, some 3] (hv)); (focus ((iterate 2 (all_goals (repeat' (first | exact sub_dead | exact fam_same rfl rfl rfl | exact fam_rd rfl rfl | exact fam_ren rfl rfl rfl | exact row_nm rfl rfl | (refine row_nm rfl ?_) | (refine row_setr rfl (subL_cons (sub_int ?_) subL_nil) ?_ rfl rfl rfl) | (refine row_setl rfl (subL_cons (sub_int ?_) subL_nil) ?_ rfl rfl rfl) | exact subL_nil | exact trivial | (intro Q h; refine h ?_; clear h Q) | refine And.intro ?_ ?_ | refine subL_cons ?_ ?_ | refine sub_agg ?_ | refine sub_tup ?_ | refine sub_fn ?_ | refine sub_bfn ?_ ?_ | refine var_mk ?_ | refine rd_var ?_ rfl | refine rd_rd ?_ | exact sub_ptr rfl rfl | exact sub_sl rfl rfl rfl | exact sub_refl_val _ _ | exact sub_sb rfl | exact sub_sbl rfl | exact row_same rfl rfl rfl | exact row_ren rfl rfl rfl | exact sub_nil rfl | ((first | refine sub_int ?_ | refine sub_sl rfl rfl ?_ | refine sub_nil ?_ | refine virt_mk ?_ | show (_ : Nat) = _); first | with_reducible rfl | omega | ((try simp only [wS]); omega) | rfl) | apply row_app1 | apply row_app2 | apply row_app1r | refine cells_succ ?_ ?_ | exact cell0 | with_reducible rfl | (refine And.left (b := True) ⟨?_, True.intro⟩; assumption) | refine sub_int ?_ | refine sub_sb ?_ | refine sub_sbl ?_ | refine sub_sl rfl rfl ?_ | (apply row_lit rfl; (focus (refine cells_succ ?_ ?_))) | refine row_same rfl ?_ ?_ | refine row_ren rfl ?_ ?_)))))); (any_goals (first | (apply nodup_mk; rfl) | (apply nodup_mk2; rfl) | (apply nodup_mk3; rfl))))
    | (apply next_sub (Subtype.mk (k + 1) (by first | omega | (simp only; omega))); (focus (rw [hSk]; apply le_mk [some 0, some 1, some 2, some 3, some 4, some 5, some 6]; (focus (iterate 2 (all_goals (repeat' (first | exact sub_dead | exact fam_same rfl rfl rfl | exact fam_rd rfl rfl | exact fam_ren rfl rfl rfl | exact row_nm rfl rfl | (refine row_nm rfl ?_) | (refine row_setr rfl (subL_cons (sub_int ?_) subL_nil) ?_ rfl rfl rfl) | (refine row_setl rfl (subL_cons (sub_int ?_) subL_nil) ?_ rfl rfl rfl) | exact subL_nil | exact trivial | (intro Q h; refine h ?_; clear h Q) | refine And.intro ?_ ?_ | refine subL_cons ?_ ?_ | refine sub_agg ?_ | refine sub_tup ?_ | refine sub_fn ?_ | refine sub_bfn ?_ ?_ | refine var_mk ?_ | refine rd_var ?_ rfl | refine rd_rd ?_ | exact sub_ptr rfl rfl | exact sub_sl rfl rfl rfl | exact sub_refl_val _ _ | exact sub_sb rfl | exact sub_sbl rfl | exact row_same rfl rfl rfl | exact row_ren rfl rfl rfl | exact sub_nil rfl | ((first | refine sub_int ?_ | refine sub_sl rfl rfl ?_ | refine sub_nil ?_ | refine virt_mk ?_ | show (_ : Nat) = _); first | with_reducible rfl | omega | ((try simp only [wS]); omega) | rfl) | apply row_app1 | apply row_app2 | apply row_app1r | refine cells_succ ?_ ?_ | exact cell0 | with_reducible rfl | (refine And.left (b := True) ⟨?_, True.intro⟩; assumption) | refine sub_int ?_ | refine sub_sb ?_ | refine sub_sbl ?_ | refine sub_sl rfl rfl ?_ | (apply row_lit rfl; (focus (refine cells_succ ?_ ?_))) | refine row_same rfl ?_ ?_ | refine row_ren rfl ?_ ?_))))); (any_goals (apply okIx_mk; rfl)))); (all_goals (try (first | omega | (simp only; omega)))))
    | omega))
  · have hkk : m = k := by omega
    subst hkk
    (repeat' (first
    | (intro Q h; refine h ?_; clear h Q)
    | (with_reducible refine bcase_true ?_)
    | (with_reducible refine bcase_false ?_)
    | (refine bcase_mk (fun hb => ?_) (fun hb => ?_) <;> (try simp only [nS, nT, eq_self, reduceCtorEq] at hb))
    | refine nil_mk (fun hz => ?_) ?_
    | refine draw_mk (by decide +kernel) ?_
    | refine seq_go ?_
    | refine And.intro (by first | omega | ((try simp only [wS]); omega) | rfl | decide) ?_
    | (apply ret_mk [some 0, some 3]; (focus (iterate 2 (all_goals (repeat' (first | exact sub_dead | exact fam_same rfl rfl rfl | exact fam_rd rfl rfl | exact fam_ren rfl rfl rfl | exact row_nm rfl rfl | (refine row_nm rfl ?_) | (refine row_setr rfl (subL_cons (sub_int ?_) subL_nil) ?_ rfl rfl rfl) | (refine row_setl rfl (subL_cons (sub_int ?_) subL_nil) ?_ rfl rfl rfl) | exact subL_nil | exact trivial | (intro Q h; refine h ?_; clear h Q) | refine And.intro ?_ ?_ | refine subL_cons ?_ ?_ | refine sub_agg ?_ | refine sub_tup ?_ | refine sub_fn ?_ | refine sub_bfn ?_ ?_ | refine var_mk ?_ | refine rd_var ?_ rfl | refine rd_rd ?_ | exact sub_ptr rfl rfl | exact sub_sl rfl rfl rfl | exact sub_refl_val _ _ | exact sub_sb rfl | exact sub_sbl rfl | exact row_same rfl rfl rfl | exact row_ren rfl rfl rfl | exact sub_nil rfl | ((first | refine sub_int ?_ | refine sub_sl rfl rfl ?_ | refine sub_nil ?_ | refine virt_mk ?_ | show (_ : Nat) = _); first | with_reducible rfl | omega | ((try simp only [wS]); omega) | rfl) | apply row_app1 | apply row_app2 | apply row_app1r | refine cells_succ ?_ ?_ | exact cell0 | with_reducible rfl | (refine And.left (b := True) ⟨?_, True.intro⟩; assumption) | refine sub_int ?_ | refine sub_sb ?_ | refine sub_sbl ?_ | refine sub_sl rfl rfl ?_ | (apply row_lit rfl; (focus (refine cells_succ ?_ ?_))) | refine row_same rfl ?_ ?_ | refine row_ren rfl ?_ ?_))))); (any_goals (apply okIx_mk; rfl)))
    | omega))
end Go.Vx.L18

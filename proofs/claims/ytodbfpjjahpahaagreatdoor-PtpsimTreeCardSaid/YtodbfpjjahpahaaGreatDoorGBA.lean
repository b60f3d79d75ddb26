/- Lemmas of a small executor for the model, and contracts of functions, used for the law that this claim proves. No condition. -/
import Derived.Test.YtodbfpjjahpahaaGreatDoorG4
import Derived.Test.YtodbfpjjahpahaaGreatDoorS42
import Derived.Test.YtodbfpjjahpahaaGreatDoorW3
set_option linter.unusedSimpArgs false
set_option linter.unusedVariables false
set_option maxRecDepth 100000
namespace Go.Vx.L58
open Go Go.Proofs
def srt (l : List Int) : List Int := l.mergeSort fun x y => decide (x ≤ y)
theorem srt_len (l : List Int) : (srt l).length = l.length := List.length_mergeSort ..
theorem sort_ok (l : List Int) (t : TypeId) (cap : Option Nat) (hl : l.length ≤ 1000000) :
  Runs Tryz.prog 116 [.sl 0 1 0 l.length cap] [.arr true t 1 l.length (intF l)] (Det (.tup []) [.arr true t 1 l.length (intF (srt l))]) :=
 sort_bridge Tryz.call116 (Any.slices_Sort_int Tryz.lays189) (Any.slices_Sort_int_none Tryz.lays189) l t cap hl
/-- A graph's neighbors, row by row. -/
abbrev nB (n : Nat) (rs : List (List Int)) : Blk := .fam true 29 3 1 n (famF intC 0 rs) none 0
/-- One edge more. -/
def stN (rs : List (List Int)) (e : Ed) : List (List Int) :=
 (rs.set e.a.toNat (rs.getD e.a.toNat [] ++ [e.b])).set e.b.toNat ((rs.set e.a.toNat (rs.getD e.a.toNat [] ++ [e.b])).getD e.b.toNat [] ++ [e.a])
def nrU (n : Nat) (l : List Ed) : List (List Int) := l.foldl stN (List.replicate n [])
theorem stN_len (rs : List (List Int)) (e : Ed) : (stN rs e).length = rs.length := by simp [stN]
theorem nrU_len (n : Nat) (l : List Ed) : (nrU n l).length = n := by
 unfold nrU
 have : ∀ (l : List Ed) (rs : List (List Int)), (l.foldl stN rs).length = rs.length := by
  intro l
  induction l with
  | nil => intro rs; rfl
  | cons e l ih => intro rs; rw [List.foldl_cons, ih, stN_len]
 rw [this]; simp
theorem stN_row (rs : List (List Int)) (e : Ed) (i : Nat) : ((stN rs e).getD i []).length ≤ (rs.getD i []).length + 2 := by
 unfold stN
 rw [getD_set]
 have h1 : ∀ j, ((rs.set e.a.toNat (rs.getD e.a.toNat [] ++ [e.b])).getD j []).length ≤ (rs.getD j []).length + 1 := fun j => by
  rw [getD_set]
  split
  ·rename_i h; rw [h.1]; simp
  ·omega
 split
 ·rename_i h
  rw [← h.1]
  have := h1 i
  simp only [List.length_append, List.length_cons, List.length_nil]
  omega
 ·have := h1 i
  omega
theorem nrU_succ (n : Nat) {l : List Ed} {k : Nat} (h : k < l.length) : nrU n (l.take (k + 1)) = stN (nrU n (l.take k)) (l.getD k ed0) := by
 unfold nrU
 rw [List.take_add_one, List.getD_eq_getElem?_getD, List.getElem?_eq_getElem h, List.foldl_append]; rfl
theorem nrU_row (n : Nat) (l : List Ed) (i : Nat) : ∀ k, k ≤ l.length → ((nrU n (l.take k)).getD i []).length ≤ 2 * k
 | 0, _ => by
  show ((List.replicate n ([] : List Int)).getD i []).length ≤ 0
  rw [List.getD_eq_getElem?_getD, List.getElem?_replicate]
  split <;> simp
 | k + 1, h => by
  have ih := nrU_row n l i k (by omega)
  rw [nrU_succ n (by omega)]
  have := stN_row (nrU n (l.take k)) (l.getD k ed0) i
  omega
theorem sortk (rs : List (List Int)) (x : Nat) (h : x < rs.length) : (rs.take (x + 1)).map srt ++ rs.drop (x + 1) = ((rs.take x).map srt ++ rs.drop x).set x (srt (rs.getD x [])) := by
 have hl : ((rs.take x).map srt).length = x := by simp; omega
 rw [List.set_append_right _ _ (by omega), hl, Nat.sub_self, List.drop_eq_getElem_cons h, List.set_cons_zero, List.take_add_one, List.getElem?_eq_getElem h, List.getD_eq_getElem?_getD, List.getElem?_eq_getElem h]
 simp only [List.map_append, Option.toList_some, List.map_cons, List.map_nil, List.append_assoc, List.singleton_append, Option.getD_some, List.cons_append, List.nil_append]
def nrF (n : Nat) (l : List Ed) : List (List Int) := (nrU n l).map srt
theorem neighbors_ok (n : Nat) (l : List Ed) (cap : Option Nat) (hn : 1 ≤ n ∧ n ≤ 24) (hl : l.length ≤ 64) (he : ∀ k, k < l.length → (0 ≤ (l.getD k ed0).a ∧ (l.getD k ed0).a < n) ∧ (0 ≤ (l.getD k ed0).b ∧ (l.getD k ed0).b < n) ∧ (l.getD k ed0).a ≠ (l.getD k ed0).b) :
  Runs Tryz.prog 74 [gA n l cap] [gB l] (Det (.sl 1 1 0 n none) [gB l, nB n (nrF n l)]) := by
 refine Runs.mk tabOK Tryz.call74 Tryz.func74 rfl Tryz.ntmps74 Tryz.results74 rfl ?_
 (repeat' (first
  | (intro Q h; refine h ?_; clear h Q)
  | refine seq_go ?_
  | refine And.intro (by first | omega | ((try simp only [wS]); omega) | rfl | decide) ?_
  ))
 refine loop_inv (σ := Nat) (fun x => x ≤ l.length) (fun x => ⟨[(3, .sl 1 1 0 n none), (12, .sl 0 4 0 l.length cap), (13, .val (.int .i64 l.length)), (14, .val (.int .i64 x))], [gB l, nB n (nrU n (l.take x))]⟩) (fun x => l.length - x) (0) ?_ ?_ ?_
 ·omega
 ·(apply le_mk [some 0, some 2]; (focus (iterate 2 (all_goals (repeat' (first | exact fam_new rfl rfl | exact trivial | (intro Q h; refine h ?_; clear h Q) | refine And.intro ?_ ?_ | exact sub_sl rfl rfl rfl | exact sub_refl_val _ _ | exact row_same rfl rfl rfl ))))); (any_goals (apply okIx_mk; rfl)))
 rintro k hk
 have he := he (0 + Int.toNat k)
 have hr := fun i => nrU_row n l i k hk
 have hlen := nrU_len n (l.take k)
 have hS := fun h => nrU_succ n (l := l) (k := k) h
 by_cases hkl : k < l.length
 ·have hS := hS hkl
  have hz : 0 + Int.toNat k = k := by omega
  rw [hz] at he
  have he := he hkl
  generalize nrU n (l.take k) = rs at *
  generalize hE : l.getD k ed0 = E at *
  have hE' : l.getD (0 + Int.toNat k) ed0 = E := by rw [hz]; exact hE
  obtain ⟨A, PA, B, PB⟩ := E
  simp only at he
  obtain ⟨⟨a0, a1⟩, ⟨b0, b1⟩, hab⟩ := he
  obtain ⟨a, rfl⟩ := Int.eq_ofNat_of_zero_le a0
  obtain ⟨b, rfl⟩ := Int.eq_ofNat_of_zero_le b0
  have hra := hr a
  have hrb := hr b
  have hfa : (famF intC 0 rs (0 + a)).1 ≤ 2 * k := by rw [famF_fst, Nat.zero_add]; exact hra
  (repeat' (first
  | (intro Q h; refine h ?_; clear h Q)
  | (refine bcase_mk (fun hb => ?_) (fun hb => ?_) <;> (try simp only [nS, nT, eq_self, reduceCtorEq] at hb))
  | omega))
  refine seq_go ?_
  (repeat' (first
  | (intro Q h; refine h ?_; clear h Q)
  ))
  refine seq_join (σ := Unit) (fun x => True) (fun x => ⟨[(3, .sl 1 1 0 n none), (5, .ptr 2 4 0 0), (12, .sl 0 4 0 l.length cap), (13, .val (.int .i64 l.length)), (14, .val (.int .i64 k))], [gB l, nB n rs, .var [.val (.int .i64 a), .val (.int .i64 PA), .val (.int .i64 b), .val (.int .i64 PB)]]⟩) ?_ ?_
  ·(repeat' (first
  | (intro Q h; refine h ?_; clear h Q)
  | refine And.intro (by first | omega | ((try simp only [wS]); omega) | rfl | decide) ?_
  | (apply join_sub (Subtype.mk () _); (focus (apply le_mk [some 0, some 1, some 2]; (focus (iterate 2 (all_goals (repeat' (first | exact fam_same rfl rfl rfl | exact subL_nil | exact trivial | (intro Q h; refine h ?_; clear h Q) | refine And.intro ?_ ?_ | refine subL_cons ?_ ?_ | refine var_mk ?_ | exact sub_ptr rfl rfl | exact sub_sl rfl rfl rfl | exact sub_refl_val _ _ | exact row_same rfl rfl rfl | refine sub_int ?_ ))))); (any_goals (apply okIx_mk; rfl)))); (all_goals (try fail)))
  ))
   all_goals (first | exact True.intro | (rw [hE']; done) )
  rintro ⟨⟩ _
  (repeat' (first
  | (intro Q h; refine h ?_; clear h Q)
  ))
  refine seq_join (σ := Unit) (fun x => True) (fun x => ⟨[(3, .sl 1 1 0 n none), (5, .ptr 2 4 0 0), (12, .sl 0 4 0 l.length cap), (13, .val (.int .i64 l.length)), (14, .val (.int .i64 k))], [gB l, nB n (rs.set a (rs.getD a [] ++ [(b : Int)])), .var [.val (.int .i64 a), .val (.int .i64 PA), .val (.int .i64 b), .val (.int .i64 PB)]]⟩) ?_ ?_
  ·(repeat' (first
  | (intro Q h; refine h ?_; clear h Q)
  | refine draw_mk (by decide +kernel) ?_
  | refine And.intro (by first | omega | ((try simp only [wS]); omega) | rfl | decide) ?_
  | (apply join_sub (Subtype.mk () _); (focus (apply le_mk [some 0, some 1, some 2]; (focus (iterate 2 (all_goals (repeat' (first | exact subL_nil | exact trivial | (intro Q h; refine h ?_; clear h Q) | refine And.intro ?_ ?_ | refine subL_cons ?_ ?_ | refine var_mk ?_ | exact sub_ptr rfl rfl | exact sub_sl rfl rfl rfl | exact sub_refl_val _ _ | exact row_same rfl rfl rfl ))))); (any_goals (apply okIx_mk; rfl)))); (all_goals (try (first | omega ))))
  ))
   all_goals (refine fam_app1 (x := (b : Int)) (cell1 ?_) ?_ ?_ rfl)
   all_goals (first | exact sub_refl_val _ _ | (simp only [Int.toNat_natCast, Nat.zero_add]; done) | (simp only [Int.toNat_natCast, Nat.zero_add]; omega) )
  rintro ⟨⟩ _
  have hfb : (famF intC 0 (rs.set a (rs.getD a [] ++ [(b : Int)])) (0 + b)).1 ≤ 2 * k := by
   rw [famF_fst, Nat.zero_add, getD_set, if_neg (fun h => by have := h.1; omega)]; exact hrb
  (repeat' (first
  | (intro Q h; refine h ?_; clear h Q)
  | refine draw_mk (by decide +kernel) ?_
  | refine And.intro (by first | omega | ((try simp only [wS]); omega) | rfl | decide) ?_
  | (apply next_sub (Subtype.mk (k + 1) _); (focus (apply le_mk [some 0, some 1]; (focus (iterate 2 (all_goals (repeat' (first | exact trivial | (intro Q h; refine h ?_; clear h Q) | refine And.intro ?_ ?_ | exact sub_sl rfl rfl rfl | exact sub_refl_val _ _ | exact row_same rfl rfl rfl | ((first | refine sub_int ?_ ); first | with_reducible rfl | omega | ((try simp only [wS]); omega) | rfl) ))))); (any_goals (apply okIx_mk; rfl)))); (all_goals (try (first | omega | (simp only; omega)))))
  ))
  ·rw [hS]
   refine fam_app1 (rs' := rs.set a (rs.getD a [] ++ [(b : Int)])) (x := (a : Int)) (cell1 ?_) ?_ ?_ rfl
   all_goals (first | exact sub_refl_val _ _ | (simp only [Int.toNat_natCast, Nat.zero_add, stN]; done) | (simp only [Int.toNat_natCast, Nat.zero_add, List.length_set]; omega) )
 ·have hk2 : k = l.length := by omega
  subst hk2
  rw [List.take_length]
  clear he hr hlen hS
  generalize hU : nrU n l = rs
  have hrl : rs.length = n := by rw [← hU]; exact nrU_len n l
  have hrow : ∀ i, (rs.getD i []).length ≤ 1000000 := fun i => by
   have := nrU_row n l i l.length (Nat.le_refl _)
   rw [List.take_length, hU] at this
   omega
  (repeat' (first
  | (intro Q h; refine h ?_; clear h Q)
  | (refine bcase_mk (fun hb => ?_) (fun hb => ?_) <;> (try simp only [nS, nT, eq_self, reduceCtorEq] at hb))
  | refine draw_mk (by decide +kernel) ?_
  | refine seq_go ?_
  | refine And.intro (by first | omega | ((try simp only [wS]); omega) | rfl | decide) ?_
  | omega))
  refine loop_inv (σ := Nat) (fun x => x ≤ n) (fun x => ⟨[(3, .sl 1 1 0 n none), (45, .sl 1 1 0 n none), (46, .val (.int .i64 n)), (47, .val (.int .i64 x))], [gB l, nB n ((rs.take x).map srt ++ rs.drop x)]⟩) (fun x => n - x) (0) ?_ ?_ ?_
  ·omega
  ·(apply le_mk [some 0, some 1]; (focus (iterate 2 (all_goals (repeat' (first | exact fam_same rfl rfl rfl | exact trivial | (intro Q h; refine h ?_; clear h Q) | refine And.intro ?_ ?_ | exact sub_sl rfl rfl rfl | exact sub_refl_val _ _ | exact row_same rfl rfl rfl ))))); (any_goals (apply okIx_mk; rfl)))
  rintro x hx
  have hz : 0 + Int.toNat x = x := by omega
  generalize hR : (rs.take x).map srt ++ rs.drop x = R
  by_cases hxn : x < n
  ·have hRx : R.getD x [] = rs.getD x [] := by
    rw [← hR, List.getD_eq_getElem?_getD, List.getElem?_append_right (by simp; omega), List.getElem?_drop]
    simp only [List.length_map, List.length_take, List.getD_eq_getElem?_getD]
    congr 2; omega
   have hso := sort_ok (R.getD (0 + Int.toNat x) []) 3 none (by rw [hz, hRx]; exact hrow x)
   (repeat' (first
  | (intro Q h; refine h ?_; clear h Q)
  | (refine bcase_mk (fun hb => ?_) (fun hb => ?_) <;> (try simp only [nS, nT, eq_self, reduceCtorEq] at hb))
  | refine seq_go ?_
  | refine And.intro (by first | omega | ((try simp only [wS]); omega) | rfl | decide) ?_
  | ((apply call_take 2 [some 2] (hso)); (focus (first | rfl )); (focus (iterate 2 (all_goals (repeat' (first | exact subL_nil | exact trivial | (intro Q h; refine h ?_; clear h Q) | refine And.intro ?_ ?_ | refine subL_cons ?_ ?_ | exact sub_sl rfl rfl rfl | exact row_same rfl rfl rfl ))))); (any_goals (first | (apply nodup_mk; rfl) )))
  | (apply next_sub (Subtype.mk (x + 1) _); (focus (apply leg_mk [.put 1] [some 0, some 1]; (focus (iterate 3 (all_goals (repeat' (first | exact trivial | (intro Q h; refine h ?_; clear h Q) | refine And.intro ?_ ?_ | exact sub_sl rfl rfl rfl | exact sub_refl_val _ _ | exact row_same rfl rfl rfl | ((first | refine sub_int ?_ ); first | with_reducible rfl | omega | ((try simp only [wS]); omega) | rfl) ))))); (any_goals (apply okIx_mk; rfl)))); (all_goals (try (first | omega | (simp only; omega)))))
  | omega))
   ·exact Nat.le_refl _
   ·have hlr : R.length = n := by rw [← hR]; simp; omega
    refine fam_put (l := srt (R.getD x [])) ?_ ?_ ?_ rfl ?_
    ·rw [hz]; refine row_ren rfl ?_ rfl
     rw [famF_fst, srt_len]
    ·rw [hz, famF_fst, srt_len]
    ·rw [hz, hRx, ← hR]; exact sortk rs x (by omega)
    ·rw [hz, hlr]; exact hxn
  ·(repeat' (first
  | (intro Q h; refine h ?_; clear h Q)
  | (refine bcase_mk (fun hb => ?_) (fun hb => ?_) <;> (try simp only [nS, nT, eq_self, reduceCtorEq] at hb))
  | refine seq_go ?_
  | refine And.intro (by first | omega | ((try simp only [wS]); omega) | rfl | decide) ?_
  | (apply ret_mk [some 0, some 1]; (focus (iterate 2 (all_goals (repeat' (first | exact trivial | (intro Q h; refine h ?_; clear h Q) | refine And.intro ?_ ?_ | exact sub_sl rfl rfl rfl | exact row_same rfl rfl rfl ))))); (any_goals (apply okIx_mk; rfl)))
  | omega))
   refine fam_same rfl rfl ?_
   rw [← hR, List.take_of_length_le (by omega), List.drop_of_length_le (by omega), List.append_nil]
   unfold nrF
   rw [hU]
end Go.Vx.L58
set_option maxRecDepth 100000
namespace Go.Vx.L58
open Go Go.Proofs
/-- One neighbor that is met at a level. -/
def rlx (d : Int) (p : List Int × List Int) (x : Int) : List Int × List Int := if p.1.getD x.toNat 0 < 0 then (p.1.set x.toNat (d + 1), p.2 ++ [x]) else p
def lvR (rs : List (List Int)) (d : Int) (p : List Int × List Int) (a : Int) : List Int × List Int := (rs.getD a.toNat []).foldl (rlx d) p
/-- A level. -/
def lvF (rs : List (List Int)) (d : Int) (l : List Int) (D : List Int) : List Int × List Int := l.foldl (lvR rs d) (D, [])
def ngs (D : List Int) : Nat := D.countP fun x => decide (x < 0)
theorem ngs_le (D : List Int) : ngs D ≤ D.length := List.countP_le_length
theorem ngs_set : ∀ (D : List Int) (i : Nat) (v : Int), i < D.length → D.getD i 0 < 0 → 0 ≤ v → ngs (D.set i v) + 1 = ngs D
 | [], i, v, h, _, _ => by simp at h
 | x :: D, 0, v, _, h, hv => by
  have h : x < 0 := h
  have h2 : ¬ v < 0 := by omega
  simp [ngs, h, h2]
 | x :: D, i + 1, v, h, hx, hv => by
  have ih := ngs_set D i v (by simpa using h) hx hv
  unfold ngs at *
  simp only [List.set_cons_succ, List.countP_cons]
  omega
/-- What holds of a state of a level. -/
structure LvOK (n : Nat) (m : Nat) (p : List Int × List Int) : Prop where
 len : p.1.length = n
 cnt : ngs p.1 + p.2.length = m
 rng : ∀ x ∈ p.2, 0 ≤ x ∧ x < n
theorem rlx_ok {n m : Nat} {d : Int} {p : List Int × List Int} {x : Int} (h : LvOK n m p) (hd : 0 ≤ d) (hx : 0 ≤ x ∧ x < n) : LvOK n m (rlx d p x) := by
 unfold rlx
 split
 ·rename_i hn
  refine ⟨by simp [h.len], ?_, fun y hy => ?_⟩
  ·have := ngs_set p.1 x.toNat (d + 1) (by rw [h.len]; omega) hn (by omega)
   have := h.cnt
   simp only [List.length_append, List.length_cons, List.length_nil]; omega
  ·simp only [List.mem_append, List.mem_singleton] at hy
   rcases hy with hy | rfl
   ·exact h.rng y hy
   ·exact hx
 ·exact h
theorem fold_ok {n m : Nat} {d : Int} (hd : 0 ≤ d) : ∀ (l : List Int) (p : List Int × List Int), LvOK n m p → (∀ x ∈ l, 0 ≤ x ∧ x < (n : Int)) → LvOK n m (l.foldl (rlx d) p)
 | [], p, h, _ => h
 | x :: l, p, h, hl => fold_ok hd l _ (rlx_ok h hd (hl x (by simp))) fun y hy => hl y (by simp [hy])
def rowsIn (n : Nat) (rs : List (List Int)) : Prop := ∀ i, ∀ x ∈ rs.getD i [], 0 ≤ x ∧ x < (n : Int)
theorem lvR_ok {n m : Nat} {rs : List (List Int)} {d : Int} {p : List Int × List Int} {a : Int} (h : LvOK n m p) (hd : 0 ≤ d) (hr : rowsIn n rs) : LvOK n m (lvR rs d p a) := fold_ok hd _ _ h (hr a.toNat)
theorem lvs_ok {n m : Nat} {rs : List (List Int)} {d : Int} (hd : 0 ≤ d) (hr : rowsIn n rs) : ∀ (l : List Int) (p : List Int × List Int), LvOK n m p → LvOK n m (l.foldl (lvR rs d) p)
 | [], p, h => h
 | x :: l, p, h => lvs_ok hd hr l _ (lvR_ok h hd hr)
theorem foldl_take {α β : Type} (f : β → α → β) (b : β) (l : List α) (k : Nat) (d : α) (h : k < l.length) : (l.take (k + 1)).foldl f b = f ((l.take k).foldl f b) (l.getD k d) := by
 rw [List.take_add_one, List.getD_eq_getElem?_getD, List.getElem?_eq_getElem h, List.foldl_append]; rfl
/-- The distances behind all levels. -/
def bfs (rs : List (List Int)) : Nat → Int → List Int → List Int → List Int
 | 0, _, _, D => D
 | m + 1, d, l, D => if (lvF rs d l D).2.length = 0 then (lvF rs d l D).1 else bfs rs m (d + 1) (lvF rs d l D).2 (lvF rs d l D).1
abbrev nR (n : Nat) (rs : List (List Int)) : Blk := .fam false 29 3 1 n (famF intC 0 rs) none 0
abbrev vsL (n : Nat) (rs : List (List Int)) (l D : List Int) : List Blk := [iB false l, .var [.sl 4 1 0 n none], .var [.sl 5 1 0 n none], .var [.fn (.func 76) [.ptr 1 1 0 0, .ptr 2 1 0 0, .ptr 3 1 0 0]], nR n rs, iB true D]
set_option maxHeartbeats 1000000 in
theorem visit_ok (n : Nat) (hn : 1 ≤ n ∧ n ≤ 24) (rs : List (List Int)) (hr : rowsIn n rs) (hrl : rs.length = n) (hrow : ∀ i, (rs.getD i []).length ≤ 1000) : ∀ (m : Nat) (l D : List Int) (d : Int) (cap : Option Nat), ngs D < m → D.length = n → (∀ x ∈ l, 0 ≤ x ∧ x < (n : Int)) → l.length ≤ 1000 → 0 ≤ d → d + m ≤ 1000 →
  Runs Tryz.prog 76 [.sl 0 1 0 l.length cap, .val (.int .i64 d), .ptr 1 1 0 0, .ptr 2 1 0 0, .ptr 3 1 0 0] (vsL n rs l D) (Det (.tup []) (vsL n rs l (bfs rs m d l D)))
 | 0, l, D, d, cap, hm, _, _, _, _, _ => absurd hm (by omega)
 | m + 1, l, D, d, cap, hm, hD, hl, hll, hd, hdm => by
  have hmx : maxLen = 9223372036854775807 := by decide
  have base : LvOK n (ngs D) (D, []) := ⟨hD, rfl, fun x hx => by cases hx⟩
  have okK : ∀ k, LvOK n (ngs D) ((l.take k).foldl (lvR rs d) (D, [])) := fun k => lvs_ok hd hr _ _ base
  refine Runs.mk tabOK Tryz.call76 Tryz.func76 rfl Tryz.ntmps76 Tryz.results76 rfl ?_
  (repeat' (first
  | (intro Q h; refine h ?_; clear h Q)
  | refine seq_go ?_
  ))
  refine loop_inv (σ := Nat) (fun x => x ≤ l.length) (fun x => ⟨[(1, .val (.int .i64 d)), (2, .ptr 1 1 0 0), (3, .ptr 2 1 0 0), (4, .ptr 3 1 0 0), (7, .sl 6 1 0 ((l.take x).foldl (lvR rs d) (D, [])).2.length none), (12, .sl 0 1 0 l.length cap), (13, .val (.int .i64 l.length)), (14, .val (.int .i64 x))], [iB false l, .var [.sl 4 1 0 n none], .var [.sl 5 1 0 n none], .var [.fn (.func 76) [.ptr 1 1 0 0, .ptr 2 1 0 0, .ptr 3 1 0 0]], nR n rs, iB true ((l.take x).foldl (lvR rs d) (D, [])).1, iB true ((l.take x).foldl (lvR rs d) (D, [])).2]⟩) (fun x => l.length - x) (0) ?_ ?_ ?_
  ·omega
  ·(apply le_mk [some 0, some 1, some 2, some 3, some 4, some 5, none]; (focus (iterate 2 (all_goals (repeat' (first | exact fam_same rfl rfl rfl | exact subL_nil | exact trivial | (intro Q h; refine h ?_; clear h Q) | refine And.intro ?_ ?_ | refine subL_cons ?_ ?_ | refine sub_fn ?_ | refine var_mk ?_ | exact sub_ptr rfl rfl | exact sub_sl rfl rfl rfl | exact sub_refl_val _ _ | exact row_same rfl rfl rfl | exact sub_nil rfl | ((first | refine virt_mk ?_ ); first | with_reducible rfl | omega | ((try simp only [wS]); omega) | rfl) ))))); (any_goals (apply okIx_mk; rfl)))
  rintro k hk
  have hok := okK k
  by_cases hkl : k < l.length
  ·have hS := foldl_take (lvR rs d) (D, []) l k 0 hkl
   have hz : 0 + Int.toNat k = k := by omega
   generalize (l.take k).foldl (lvR rs d) (D, []) = p at *
   have hx := hl (l.getD k 0) (getD_mem l k 0 hkl)
   generalize hX : l.getD k 0 = X at *
   have hX' : l.getD (0 + Int.toNat k) 0 = X := by rw [hz]; exact hX
   obtain ⟨a, rfl⟩ := Int.eq_ofNat_of_zero_le hx.1
   have hrr := hrow a
   have hra := hr a
   generalize hW : rs.getD a [] = W at *
   have hW' : (famF intC 0 rs a).1 = W.length := by rw [famF_fst, hW]
   have hW2 : (famF intC 0 rs a).2 = rowF intC 0 W := by rw [famF_snd, hW]
   (repeat' (first
  | (intro Q h; refine h ?_; clear h Q)
  | (refine bcase_mk (fun hb => ?_) (fun hb => ?_) <;> (try simp only [nS, nT, eq_self, reduceCtorEq] at hb))
  | refine seq_go ?_
  | refine And.intro (by first | omega | ((try simp only [wS]); omega) | rfl | decide) ?_
  | omega))
   refine loop_inv (σ := Nat) (fun x => x ≤ W.length) (fun x => ⟨[(1, .val (.int .i64 d)), (2, .ptr 1 1 0 0), (3, .ptr 2 1 0 0), (4, .ptr 3 1 0 0), (7, .sl 6 1 0 ((W.take x).foldl (rlx d) p).2.length none), (12, .sl 0 1 0 l.length cap), (13, .val (.int .i64 l.length)), (14, .val (.int .i64 k)), (21, .sl 7 1 0 W.length none), (22, .val (.int .i64 W.length)), (23, .val (.int .i64 x))], [iB false l, .var [.sl 4 1 0 n none], .var [.sl 5 1 0 n none], .var [.fn (.func 76) [.ptr 1 1 0 0, .ptr 2 1 0 0, .ptr 3 1 0 0]], nR n rs, iB true ((W.take x).foldl (rlx d) p).1, iB true ((W.take x).foldl (rlx d) p).2, .row 4 a]⟩) (fun x => W.length - x) (0) ?_ ?_ ?_
   ·omega
   ·(apply le_mk [some 0, some 1, some 2, some 3, some 4, some 5, some 6, some 7]; (focus (iterate 2 (all_goals (repeat' (first | exact fam_same rfl rfl rfl | (refine row_nm rfl ?_) | exact subL_nil | exact trivial | (intro Q h; refine h ?_; clear h Q) | refine And.intro ?_ ?_ | refine subL_cons ?_ ?_ | refine sub_fn ?_ | refine var_mk ?_ | exact sub_ptr rfl rfl | exact sub_sl rfl rfl rfl | exact sub_refl_val _ _ | exact row_same rfl rfl rfl | ((first | refine sub_int ?_ | refine sub_sl rfl rfl ?_ | show (_ : Nat) = _); first | with_reducible rfl | omega | ((try simp only [wS]); omega) | rfl) | refine sub_int ?_ | refine sub_sl rfl rfl ?_ ))))); (any_goals (apply okIx_mk; rfl)))
    all_goals (rw [hX', Int.toNat_natCast, Nat.zero_add, hW'])
   rintro j hj
   have hokj : LvOK n (ngs D) ((W.take j).foldl (rlx d) p) := fold_ok hd _ _ hok fun x hx => hra x (List.mem_of_mem_take hx)
   have hzj : 0 + Int.toNat j = j := by omega
   by_cases hjW : j < W.length
   ·have hS2 := foldl_take (rlx d) p W j 0 hjW
    have hY := hra (W.getD j 0) (getD_mem W j 0 hjW)
    have hYe : (rs.getD a []).getD (0 + Int.toNat j) 0 = W.getD j 0 := by rw [hW, hzj]
    rw [← hYe] at hS2 hY
    generalize hq : (W.take j).foldl (rlx d) p = q at *
    have hneg : q.1.getD (0 + Int.toNat ((rs.getD a []).getD (0 + Int.toNat j) 0)) 0 < 0 → (W.take (j + 1)).foldl (rlx d) p = (q.1.set (0 + Int.toNat ((rs.getD a []).getD (0 + Int.toNat j) 0)) (d + 1), q.2 ++ [(rs.getD a []).getD (0 + Int.toNat j) 0]) := fun h => by
     simp only [Nat.zero_add] at h hS2 ⊢; rw [hS2]; unfold rlx; rw [if_pos h]
    have hpos : 0 ≤ q.1.getD (0 + Int.toNat ((rs.getD a []).getD (0 + Int.toNat j) 0)) 0 → (W.take (j + 1)).foldl (rlx d) p = q := fun h => by
     simp only [Nat.zero_add] at h hS2 ⊢; rw [hS2]; unfold rlx; rw [if_neg (by omega)]
    have hq1 := hokj.len
    have hq2 := hokj.cnt
    (repeat' (first
  | (intro Q h; refine h ?_; clear h Q)
  | (refine bcase_mk (fun hb => ?_) (fun hb => ?_) <;> (try simp only [nS, nT, eq_self, reduceCtorEq] at hb))
  | refine seq_go ?_
  | refine And.intro (by first | omega | ((try simp only [wS]); omega) | rfl | decide) ?_
  | (have e := hneg hb; (apply next_sub (Subtype.mk (j + 1) (by first | omega | (simp only; omega))); (focus (simp only [e]; apply le_mk [some 0, some 1, some 2, some 3, some 4, some 5, some 9, some 7]; (focus (iterate 2 (all_goals (repeat' (first | exact fam_same rfl rfl rfl | exact row_nm rfl rfl | (refine row_setl rfl (subL_cons (sub_int ?_) subL_nil) ?_ rfl rfl rfl) | exact subL_nil | exact trivial | (intro Q h; refine h ?_; clear h Q) | refine And.intro ?_ ?_ | refine subL_cons ?_ ?_ | refine sub_fn ?_ | refine var_mk ?_ | exact sub_ptr rfl rfl | exact sub_sl rfl rfl rfl | exact sub_refl_val _ _ | exact row_same rfl rfl rfl | ((first | refine sub_int ?_ | refine sub_sl rfl rfl ?_ | show (_ : Nat) = _); first | with_reducible rfl | omega | ((try simp only [wS]); omega) | rfl) | apply row_app1 | refine cells_succ ?_ ?_ | exact cell0 | with_reducible rfl | refine sub_sl rfl rfl ?_ ))))); (any_goals (apply okIx_mk; rfl)))); (all_goals (try (first | omega | (simp only; omega))))))
  | (have e := hpos hb; (apply next_sub (Subtype.mk (j + 1) (by first | omega | (simp only; omega))); (focus (simp only [e]; apply le_mk [some 0, some 1, some 2, some 3, some 4, some 5, some 6, some 7]; (focus (iterate 2 (all_goals (repeat' (first | exact fam_same rfl rfl rfl | exact row_nm rfl rfl | exact subL_nil | exact trivial | (intro Q h; refine h ?_; clear h Q) | refine And.intro ?_ ?_ | refine subL_cons ?_ ?_ | refine sub_fn ?_ | refine var_mk ?_ | exact sub_ptr rfl rfl | exact sub_sl rfl rfl rfl | exact sub_refl_val _ _ | exact row_same rfl rfl rfl | ((first | refine sub_int ?_ ); first | with_reducible rfl | omega | ((try simp only [wS]); omega) | rfl) ))))); (any_goals (apply okIx_mk; rfl)))); (all_goals (try (first | (simp only; omega))))))
  | omega))
    all_goals (try (simp only [List.length_append, List.length_cons, List.length_nil]; done))
    all_goals (try exact cwrap (by omega) (by omega))
   ·have hjj : j = W.length := by omega
    subst hjj
    rw [List.take_length] at *
    have hS' : (l.take (k + 1)).foldl (lvR rs d) (D, []) = W.foldl (rlx d) p := by rw [hS]; unfold lvR; rw [Int.toNat_natCast, hW]
    (repeat' (first
  | (intro Q h; refine h ?_; clear h Q)
  | (refine bcase_mk (fun hb => ?_) (fun hb => ?_) <;> (try simp only [nS, nT, eq_self, reduceCtorEq] at hb))
  | refine seq_go ?_
  | refine And.intro (by first | omega | ((try simp only [wS]); omega) | rfl | decide) ?_
  | (apply next_sub (Subtype.mk (k + 1) (by first | omega | (simp only; omega))); (focus (simp only [hS']; apply le_mk [some 0, some 1, some 2, some 3, some 4, some 5, some 6]; (focus (iterate 2 (all_goals (repeat' (first | exact fam_same rfl rfl rfl | exact subL_nil | exact trivial | (intro Q h; refine h ?_; clear h Q) | refine And.intro ?_ ?_ | refine subL_cons ?_ ?_ | refine sub_fn ?_ | refine var_mk ?_ | exact sub_ptr rfl rfl | exact sub_sl rfl rfl rfl | exact sub_refl_val _ _ | exact row_same rfl rfl rfl | ((first | refine sub_int ?_ | refine sub_sl rfl rfl ?_ | show (_ : Nat) = _); first | with_reducible rfl | omega | ((try simp only [wS]); omega) | rfl) | refine row_same rfl ?_ ?_ ))))); (any_goals (apply okIx_mk; rfl)))); (all_goals (try (first | omega | (simp only; omega)))))
  ))
  ·have hkk : k = l.length := by omega
   subst hkk
   rw [List.take_length] at hok
   rw [List.take_length]
   have hok : LvOK n (ngs D) (lvF rs d l D) := hok
   rw [show l.foldl (lvR rs d) (D, []) = lvF rs d l D from rfl]
   have hq1 := hok.len
   have hq2 := hok.cnt
   have hBF : bfs rs (m + 1) d l D = if (lvF rs d l D).2.length = 0 then (lvF rs d l D).1 else bfs rs m (d + 1) (lvF rs d l D).2 (lvF rs d l D).1 := rfl
   have hrg := hok.rng
   generalize lvF rs d l D = q at *
   have hle := ngs_le q.1
   by_cases h0 : q.2.length = 0
   ·have e : bfs rs (m + 1) d l D = q.1 := by rw [hBF, if_pos h0]
    rw [e]
    (repeat' (first
  | (intro Q h; refine h ?_; clear h Q)
  | (refine bcase_mk (fun hb => ?_) (fun hb => ?_) <;> (try simp only [nS, nT, eq_self, reduceCtorEq] at hb))
  | refine seq_go ?_
  | refine And.intro (by first | omega | ((try simp only [wS]); omega) | rfl | decide) ?_
  | (apply ret_mk [some 0, some 1, some 2, some 3, some 4, some 5]; (focus (iterate 2 (all_goals (repeat' (first | exact fam_same rfl rfl rfl | exact subL_nil | exact trivial | (intro Q h; refine h ?_; clear h Q) | refine And.intro ?_ ?_ | refine subL_cons ?_ ?_ | refine sub_tup ?_ | refine sub_fn ?_ | refine var_mk ?_ | exact sub_ptr rfl rfl | exact sub_sl rfl rfl rfl | exact row_same rfl rfl rfl ))))); (any_goals (apply okIx_mk; rfl)))
  | omega))
   ·have e : bfs rs (m + 1) d l D = bfs rs m (d + 1) q.2 q.1 := by rw [hBF, if_neg h0]
    rw [e]
    have ih := visit_ok n hn rs hr hrl hrow m q.2 q.1 (d + 1) none (by omega) hq1 hrg (by omega) (by omega) (by omega)
    (repeat' (first
  | (intro Q h; refine h ?_; clear h Q)
  | (refine bcase_mk (fun hb => ?_) (fun hb => ?_) <;> (try simp only [nS, nT, eq_self, reduceCtorEq] at hb))
  | refine seq_go ?_
  | refine And.intro (by first | omega | ((try simp only [wS]); omega) | rfl | decide) ?_
  | ((first | apply call_detx [some 6, some 1, some 2, some 3, some 4, some 5] (ih) ); (focus ((iterate 2 (all_goals (repeat' (first | exact fam_same rfl rfl rfl | exact subL_nil | exact trivial | (intro Q h; refine h ?_; clear h Q) | refine And.intro ?_ ?_ | refine subL_cons ?_ ?_ | refine sub_fn ?_ | refine var_mk ?_ | exact sub_ptr rfl rfl | exact sub_sl rfl rfl rfl | exact row_same rfl rfl rfl | ((first | refine sub_int ?_ ); first | with_reducible rfl | omega | ((try simp only [wS]); omega) | rfl) )))))); (any_goals (first | (apply nodup_mk; rfl) )))
  | (apply ret_mk [some 0, some 1, some 2, some 3, some 4, some 5]; (focus (iterate 2 (all_goals (repeat' (first | exact fam_same rfl rfl rfl | exact subL_nil | exact trivial | (intro Q h; refine h ?_; clear h Q) | refine And.intro ?_ ?_ | refine subL_cons ?_ ?_ | refine sub_tup ?_ | refine sub_fn ?_ | refine var_mk ?_ | exact sub_ptr rfl rfl | exact sub_sl rfl rfl rfl | exact row_same rfl rfl rfl | exact row_ren rfl rfl rfl | ((first | show (_ : Nat) = _); first | with_reducible rfl | omega | ((try simp only [wS]); omega) | rfl) | refine row_same rfl ?_ ?_ ))))); (any_goals (apply okIx_mk; rfl)))
  | omega))
end Go.Vx.L58

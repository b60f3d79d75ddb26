/- Lemmas of a small executor for the model, and contracts of functions, used for the law that this claim proves. No condition. -/
import Derived.Test.YtodbfpjjahpahaaDoorBG4
import Derived.Test.YtodbfpjjahpahaaDoorBS42
import Derived.Test.YtodbfpjjahpahaaDoorBW3
set_option linter.unusedSimpArgs false
set_option linter.unusedVariables false
set_option maxRecDepth 100000
namespace Go.Vx.L42
open Go Go.Proofs
def srt (l : List Int) : List Int := l.mergeSort fun x y => decide (x <= y)
theorem b43 (l : List Int) : (srt l).length = l.length := List.length_mergeSort ..
theorem c6a (l : List Int) (t : TypeId) (cap : Option Nat) (hl : l.length <= 1000000) :
  Runs Tryd.prog 72 [.sl 0 1 0 l.length cap] [.arr true t 1 l.length (b52 l)] (Det (.tup []) [.arr true t 1 l.length (b52 (srt l))]) :=
 b4r Tryd.call72 (Any.slices_Sort_int Tryd.lays189) (Any.slices_Sort_int_none Tryd.lays189) l t cap hl
abbrev nB (n : Nat) (rs : List (List Int)) : Blk := .fam true 58 3 1 n (a3i a78 0 rs) none 0
def stN (rs : List (List Int)) (e : Ed) : List (List Int) :=
 (rs.set e.a.toNat (rs.getD e.a.toNat [] ++ [e.b])).set e.b.toNat ((rs.set e.a.toNat (rs.getD e.a.toNat [] ++ [e.b])).getD e.b.toNat [] ++ [e.a])
def nrU (n : Nat) (l : List Ed) : List (List Int) := l.foldl stN (List.replicate n [])
theorem c1m (rs : List (List Int)) (e : Ed) : (stN rs e).length = rs.length := by simp [stN]
theorem a98 (n : Nat) (l : List Ed) : (nrU n l).length = n := by
 unfold nrU
 have : ∀ (l : List Ed) (rs : List (List Int)), (l.foldl stN rs).length = rs.length := by
  intro l
  induction l with
  | nil => intro rs; rfl
  | cons e l ih => intro rs; rw [List.foldl_cons, ih, c1m]
 rw [this]; simp
theorem c4v (rs : List (List Int)) (e : Ed) (i : Nat) : ((stN rs e).getD i []).length <= (rs.getD i []).length + 2 := by
 unfold stN
 rw [a3e]
 have h1 : ∀ j, ((rs.set e.a.toNat (rs.getD e.a.toNat [] ++ [e.b])).getD j []).length <= (rs.getD j []).length + 1 := fun j => by
  rw [a3e]
  split
  ·rename_i h; rw [h.1]; simp
  ·omega
 split
 ·rename_i h
  rw [<- h.1]
  have := h1 i
  simp only [List.length_append, List.length_cons, List.length_nil]
  omega
 ·have := h1 i
  omega
theorem b6g (n : Nat) {l : List Ed} {k : Nat} (h : k < l.length) : nrU n (l.take (k + 1)) = stN (nrU n (l.take k)) (l.getD k ed0) := by
 unfold nrU
 rw [List.take_add_one, List.getD_eq_getElem?_getD, List.getElem?_eq_getElem h, List.foldl_append]; rfl
theorem b2a (n : Nat) (l : List Ed) (i : Nat) : ∀ k, k <= l.length -> ((nrU n (l.take k)).getD i []).length <= 2 * k
 | 0, _ => by
  show ((List.replicate n ([] : List Int)).getD i []).length <= 0
  rw [List.getD_eq_getElem?_getD, List.getElem?_replicate]
  split <;> simp
 | k + 1, h => by
  have ih := b2a n l i k (by omega)
  rw [b6g n (by omega)]
  have := c4v (nrU n (l.take k)) (l.getD k ed0) i
  omega
theorem c8r (rs : List (List Int)) (x : Nat) (h : x < rs.length) : (rs.take (x + 1)).map srt ++ rs.drop (x + 1) = ((rs.take x).map srt ++ rs.drop x).set x (srt (rs.getD x [])) := by
 have hl : ((rs.take x).map srt).length = x := by simp; omega
 rw [List.set_append_right _ _ (by omega), hl, Nat.sub_self, List.drop_eq_getElem_cons h, List.set_cons_zero, List.take_add_one, List.getElem?_eq_getElem h, List.getD_eq_getElem?_getD, List.getElem?_eq_getElem h]
 simp only [List.map_append, Option.toList_some, List.map_cons, List.map_nil, List.append_assoc, List.singleton_append, Option.getD_some, List.cons_append, List.nil_append]
def nrF (n : Nat) (l : List Ed) : List (List Int) := (nrU n l).map srt
theorem b3d (n : Nat) (l : List Ed) (cap : Option Nat) (hn : 1 <= n /\ n <= 24) (hl : l.length <= 64) (he : ∀ k, k < l.length -> (0 <= (l.getD k ed0).a /\ (l.getD k ed0).a < n) /\ (0 <= (l.getD k ed0).b /\ (l.getD k ed0).b < n) /\ (l.getD k ed0).a ≠ (l.getD k ed0).b) :
  Runs Tryd.prog 47 [gA n l cap] [gB l] (Det (.sl 1 1 0 n none) [gB l, nB n (nrF n l)]) := by
 refine Runs.mk a1a Tryd.call47 Tryd.func47 rfl Tryd.ntmps47 Tryd.results47 rfl ?_
 (repeat' (first
  | refine SP ?_
  | refine a0l ?_
  | refine OB ?_
  ))
 refine a00 (σ := Nat) (fun x => x <= l.length) (fun x => ⟨[(3, .sl 1 1 0 n none), (12, .sl 0 4 0 l.length cap), (13, .val (.int .i64 l.length)), (14, .val (.int .i64 x))], [gB l, nB n (nrU n (l.take x))]⟩) (fun x => l.length - x) (0) ?_ ?_ ?_
 ·omega
 ·(apply a0t [some 0, some 2]; (focus (iterate 2 (all_goals (repeat' (first | exact c5r rfl rfl | exact trivial | refine SP ?_ | refine And.intro ?_ ?_ | exact a0i rfl rfl rfl | exact a0a _ _ | exact a0f rfl rfl rfl ))))); any_goals (apply a0h; rfl))
 rintro k hk
 have he := he (0 + Int.toNat k)
 have hr := fun i => b2a n l i k hk
 have hlen := a98 n (l.take k)
 have hS := fun h => b6g n (l := l) (k := k) h
 by_cases hkl : k < l.length
 ·have hS := hS hkl
  have hz : 0 + Int.toNat k = k := by omega
  rw [hz] at he
  have he := he hkl
  generalize nrU n (l.take k) = rs at *
  generalize hE : l.getD k ed0 = E at *
  have hE' : l.getD (0 + Int.toNat k) ed0 = E := by rw [hz]; exact hE
  obtain ⟨A, PA, B, PB⟩ := E
  simp only at he
  obtain ⟨⟨a0, a1⟩, ⟨b0, b1⟩, hab⟩ := he
  obtain ⟨a, rfl⟩ := Int.eq_ofNat_of_zero_le a0
  obtain ⟨b, rfl⟩ := Int.eq_ofNat_of_zero_le b0
  have hra := hr a
  have hrb := hr b
  have hfa : (a3i a78 0 rs (0 + a)).1 <= 2 * k := by rw [a1z, Nat.zero_add]; exact hra
  (repeat' (first
  | refine SP ?_
  | (apply a0g <;> intro hb <;> (try simp only [nS, nT, eq_self, reduceCtorEq] at hb))
  | omega))
  refine a0l ?_
  (repeat' (first
  | refine SP ?_
  ))
  refine b59 (σ := Unit) (fun x => True) (fun x => ⟨[(3, .sl 1 1 0 n none), (5, .ptr 2 4 0 0), (12, .sl 0 4 0 l.length cap), (13, .val (.int .i64 l.length)), (14, .val (.int .i64 k))], [gB l, nB n rs, .var [.val (.int .i64 a), .val (.int .i64 PA), .val (.int .i64 b), .val (.int .i64 PB)]]⟩) ?_ ?_
  ·(repeat' (first
  | refine SP ?_
  | refine OB ?_
  | (apply b6s (Subtype.mk () _); (focus (apply a0t [some 0, some 1, some 2]; (focus (iterate 2 (all_goals (repeat' (first | exact a0z rfl rfl rfl | exact a0c | exact trivial | refine SP ?_ | refine And.intro ?_ ?_ | refine a0b ?_ ?_ | refine a0n ?_ | exact a0d rfl rfl | exact a0i rfl rfl rfl | exact a0a _ _ | exact a0f rfl rfl rfl | refine a0r ?_ ))))); any_goals (apply a0h; rfl))); (all_goals (try fail)))
  ))
   all_goals (first | exact True.intro | (rw [hE']; done) )
  rintro ⟨⟩ _
  (repeat' (first
  | refine SP ?_
  ))
  refine b59 (σ := Unit) (fun x => True) (fun x => ⟨[(3, .sl 1 1 0 n none), (5, .ptr 2 4 0 0), (12, .sl 0 4 0 l.length cap), (13, .val (.int .i64 l.length)), (14, .val (.int .i64 k))], [gB l, nB n (rs.set a (rs.getD a [] ++ [(b : Int)])), .var [.val (.int .i64 a), .val (.int .i64 PA), .val (.int .i64 b), .val (.int .i64 PB)]]⟩) ?_ ?_
  ·(repeat' (first
  | refine SP ?_
  | refine a0u (by decide +kernel) ?_
  | refine OB ?_
  | (apply b6s (Subtype.mk () _); (focus (apply a0t [some 0, some 1, some 2]; (focus (iterate 2 (all_goals (repeat' (first | exact a0c | exact trivial | refine SP ?_ | refine And.intro ?_ ?_ | refine a0b ?_ ?_ | refine a0n ?_ | exact a0d rfl rfl | exact a0i rfl rfl rfl | exact a0a _ _ | exact a0f rfl rfl rfl ))))); any_goals (apply a0h; rfl))); (all_goals (try (omega))))
  ))
   all_goals (refine b6c (x := (b : Int)) (c7p ?_) ?_ ?_ rfl)
   all_goals (first | exact a0a _ _ | (simp only [Int.toNat_natCast, Nat.zero_add]; done) | (simp only [Int.toNat_natCast, Nat.zero_add]; omega) )
  rintro ⟨⟩ _
  have hfb : (a3i a78 0 (rs.set a (rs.getD a [] ++ [(b : Int)])) (0 + b)).1 <= 2 * k := by
   rw [a1z, Nat.zero_add, a3e, if_neg (fun h => by have := h.1; omega)]; exact hrb
  (repeat' (first
  | refine SP ?_
  | refine a0u (by decide +kernel) ?_
  | refine OB ?_
  | (apply a0m (Subtype.mk (k + 1) _); (focus (apply a0t [some 0, some 1]; (focus (iterate 2 (all_goals (repeat' (first | exact trivial | refine SP ?_ | refine And.intro ?_ ?_ | exact a0i rfl rfl rfl | exact a0a _ _ | exact a0f rfl rfl rfl | ((refine a0r ?_); first | with_reducible rfl | omega | ((try simp only [wS]); omega) | rfl) ))))); any_goals (apply a0h; rfl))); (all_goals (try (first | omega | (simp only; omega)))))
  ))
  ·rw [hS]
   refine b6c (rs' := rs.set a (rs.getD a [] ++ [(b : Int)])) (x := (a : Int)) (c7p ?_) ?_ ?_ rfl
   all_goals (first | exact a0a _ _ | (simp only [Int.toNat_natCast, Nat.zero_add, stN]; done) | (simp only [Int.toNat_natCast, Nat.zero_add, List.length_set]; omega) )
 ·have hk2 : k = l.length := by omega
  subst hk2
  rw [List.take_length]
  clear he hr hlen hS
  generalize hU : nrU n l = rs
  have hrl : rs.length = n := by rw [<- hU]; exact a98 n l
  have hrow : ∀ i, (rs.getD i []).length <= 1000000 := fun i => by
   have := b2a n l i l.length (Nat.le_refl _)
   rw [List.take_length, hU] at this
   omega
  (repeat' (first
  | refine SP ?_
  | (apply a0g <;> intro hb <;> (try simp only [nS, nT, eq_self, reduceCtorEq] at hb))
  | refine a0u (by decide +kernel) ?_
  | refine a0l ?_
  | refine OB ?_
  | omega))
  refine a00 (σ := Nat) (fun x => x <= n) (fun x => ⟨[(3, .sl 1 1 0 n none), (45, .sl 1 1 0 n none), (46, .val (.int .i64 n)), (47, .val (.int .i64 x))], [gB l, nB n ((rs.take x).map srt ++ rs.drop x)]⟩) (fun x => n - x) (0) ?_ ?_ ?_
  ·omega
  ·(apply a0t [some 0, some 1]; (focus (iterate 2 (all_goals (repeat' (first | exact a0z rfl rfl rfl | exact trivial | refine SP ?_ | refine And.intro ?_ ?_ | exact a0i rfl rfl rfl | exact a0a _ _ | exact a0f rfl rfl rfl ))))); any_goals (apply a0h; rfl))
  rintro x hx
  have hz : 0 + Int.toNat x = x := by omega
  generalize hR : (rs.take x).map srt ++ rs.drop x = R
  by_cases hxn : x < n
  ·have hRx : R.getD x [] = rs.getD x [] := by
    rw [<- hR, List.getD_eq_getElem?_getD, List.getElem?_append_right (by simp; omega), List.getElem?_drop]
    simp only [List.length_map, List.length_take, List.getD_eq_getElem?_getD]
    congr 2; omega
   have hso := c6a (R.getD (0 + Int.toNat x) []) 3 none (by rw [hz, hRx]; exact hrow x)
   (repeat' (first
  | refine SP ?_
  | (apply a0g <;> intro hb <;> (try simp only [nS, nT, eq_self, reduceCtorEq] at hb))
  | refine a0l ?_
  | refine OB ?_
  | ((apply b8m 2 [some 2] (hso)); (focus (rfl)); (focus (iterate 2 (all_goals (repeat' (first | exact a0c | exact trivial | refine SP ?_ | refine And.intro ?_ ?_ | refine a0b ?_ ?_ | exact a0i rfl rfl rfl | exact a0f rfl rfl rfl ))))); any_goals (apply a0k; rfl))
  | (apply a0m (Subtype.mk (x + 1) _); (focus (apply c7g [.put 1] [some 0, some 1]; (focus (iterate 3 (all_goals (repeat' (first | exact trivial | refine SP ?_ | refine And.intro ?_ ?_ | exact a0i rfl rfl rfl | exact a0a _ _ | exact a0f rfl rfl rfl | ((refine a0r ?_); first | with_reducible rfl | omega | ((try simp only [wS]); omega) | rfl) ))))); any_goals (apply a0h; rfl))); (all_goals (try (first | omega | (simp only; omega)))))
  | omega))
   ·exact Nat.le_refl _
   ·have hlr : R.length = n := by rw [<- hR]; simp; omega
    refine b8y (l := srt (R.getD x [])) ?_ ?_ ?_ rfl ?_
    ·rw [hz]; refine a06 rfl ?_ rfl
     rw [a1z, b43]
    ·rw [hz, a1z, b43]
    ·rw [hz, hRx, <- hR]; exact c8r rs x (by omega)
    ·rw [hz, hlr]; exact hxn
  ·(repeat' (first
  | refine SP ?_
  | (apply a0g <;> intro hb <;> (try simp only [nS, nT, eq_self, reduceCtorEq] at hb))
  | refine a0l ?_
  | refine OB ?_
  | (apply a04 [some 0, some 1]; (focus (iterate 2 (all_goals (repeat' (first | exact trivial | refine SP ?_ | refine And.intro ?_ ?_ | exact a0i rfl rfl rfl | exact a0f rfl rfl rfl ))))); any_goals (apply a0h; rfl))
  | omega))
   refine a0z rfl rfl ?_
   rw [<- hR, List.take_of_length_le (by omega), List.drop_of_length_le (by omega), List.append_nil]
   unfold nrF
   rw [hU]
end Go.Vx.L42
set_option maxRecDepth 100000
namespace Go.Vx.L42
open Go Go.Proofs
def rlx (d : Int) (p : List Int × List Int) (x : Int) : List Int × List Int := if p.1.getD x.toNat 0 < 0 then (p.1.set x.toNat (d + 1), p.2 ++ [x]) else p
def lvR (rs : List (List Int)) (d : Int) (p : List Int × List Int) (a : Int) : List Int × List Int := (rs.getD a.toNat []).foldl (rlx d) p
def lvF (rs : List (List Int)) (d : Int) (l : List Int) (D : List Int) : List Int × List Int := l.foldl (lvR rs d) (D, [])
def ngs (D : List Int) : Nat := D.countP fun x => decide (x < 0)
theorem c66 (D : List Int) : ngs D <= D.length := List.countP_le_length
theorem b2o : ∀ (D : List Int) (i : Nat) (v : Int), i < D.length -> D.getD i 0 < 0 -> 0 <= v -> ngs (D.set i v) + 1 = ngs D
 | [], i, v, h, _, _ => by simp at h
 | x :: D, 0, v, _, h, hv => by
  have h : x < 0 := h
  have h2 : ¬ v < 0 := by omega
  simp [ngs, h, h2]
 | x :: D, i + 1, v, h, hx, hv => by
  have ih := b2o D i v (by simpa using h) hx hv
  unfold ngs at *
  simp only [List.set_cons_succ, List.countP_cons]
  omega
structure LvOK (n : Nat) (m : Nat) (p : List Int × List Int) : Prop where
 len : p.1.length = n
 cnt : ngs p.1 + p.2.length = m
 rng : ∀ x ∈ p.2, 0 <= x /\ x < n
theorem c69 {n m : Nat} {d : Int} {p : List Int × List Int} {x : Int} (h : LvOK n m p) (hd : 0 <= d) (hx : 0 <= x /\ x < n) : LvOK n m (rlx d p x) := by
 unfold rlx
 split
 ·rename_i hn
  refine ⟨by simp [h.len], ?_, fun y hy => ?_⟩
  ·have := b2o p.1 x.toNat (d + 1) (by rw [h.len]; omega) hn (by omega)
   have := h.cnt
   simp only [List.length_append, List.length_cons, List.length_nil]; omega
  ·simp only [List.mem_append, List.mem_singleton] at hy
   rcases hy with hy | rfl
   ·exact h.rng y hy
   ·exact hx
 ·exact h
theorem b4t {n m : Nat} {d : Int} (hd : 0 <= d) : ∀ (l : List Int) (p : List Int × List Int), LvOK n m p -> (∀ x ∈ l, 0 <= x /\ x < (n : Int)) -> LvOK n m (l.foldl (rlx d) p)
 | [], p, h, _ => h
 | x :: l, p, h, hl => b4t hd l _ (c69 h hd (hl x (by simp))) fun y hy => hl y (by simp [hy])
def b1k (n : Nat) (rs : List (List Int)) : Prop := ∀ i, ∀ x ∈ rs.getD i [], 0 <= x /\ x < (n : Int)
theorem c7x {n m : Nat} {rs : List (List Int)} {d : Int} {p : List Int × List Int} {a : Int} (h : LvOK n m p) (hd : 0 <= d) (hr : b1k n rs) : LvOK n m (lvR rs d p a) := b4t hd _ _ h (hr a.toNat)
theorem b6a {n m : Nat} {rs : List (List Int)} {d : Int} (hd : 0 <= d) (hr : b1k n rs) : ∀ (l : List Int) (p : List Int × List Int), LvOK n m p -> LvOK n m (l.foldl (lvR rs d) p)
 | [], p, h => h
 | x :: l, p, h => b6a hd hr l _ (c7x h hd hr)
theorem a8c {α β : Type} (f : β -> α -> β) (b : β) (l : List α) (k : Nat) (d : α) (h : k < l.length) : (l.take (k + 1)).foldl f b = f ((l.take k).foldl f b) (l.getD k d) := by
 rw [List.take_add_one, List.getD_eq_getElem?_getD, List.getElem?_eq_getElem h, List.foldl_append]; rfl
def bfs (rs : List (List Int)) : Nat -> Int -> List Int -> List Int -> List Int
 | 0, _, _, D => D
 | m + 1, d, l, D => if (lvF rs d l D).2.length = 0 then (lvF rs d l D).1 else bfs rs m (d + 1) (lvF rs d l D).2 (lvF rs d l D).1
abbrev nR (n : Nat) (rs : List (List Int)) : Blk := .fam false 58 3 1 n (a3i a78 0 rs) none 0
abbrev vsL (n : Nat) (rs : List (List Int)) (l D : List Int) : List Blk := [iB false l, .var [.sl 4 1 0 n none], .var [.sl 5 1 0 n none], .var [.fn (.func 49) [.ptr 1 1 0 0, .ptr 2 1 0 0, .ptr 3 1 0 0]], nR n rs, iB true D]
set_option maxHeartbeats 1000000 in
theorem b56 (n : Nat) (hn : 1 <= n /\ n <= 24) (rs : List (List Int)) (hr : b1k n rs) (hrl : rs.length = n) (hrow : ∀ i, (rs.getD i []).length <= 1000) : ∀ (m : Nat) (l D : List Int) (d : Int) (cap : Option Nat), ngs D < m -> D.length = n -> (∀ x ∈ l, 0 <= x /\ x < (n : Int)) -> l.length <= 1000 -> 0 <= d -> d + m <= 1000 ->
  Runs Tryd.prog 49 [.sl 0 1 0 l.length cap, .val (.int .i64 d), .ptr 1 1 0 0, .ptr 2 1 0 0, .ptr 3 1 0 0] (vsL n rs l D) (Det (.tup []) (vsL n rs l (bfs rs m d l D)))
 | 0, l, D, d, cap, hm, _, _, _, _, _ => absurd hm (by omega)
 | m + 1, l, D, d, cap, hm, hD, hl, hll, hd, hdm => by
  have hmx : maxLen = 9223372036854775807 := by decide
  have base : LvOK n (ngs D) (D, []) := ⟨hD, rfl, fun x hx => by cases hx⟩
  have okK : ∀ k, LvOK n (ngs D) ((l.take k).foldl (lvR rs d) (D, [])) := fun k => b6a hd hr _ _ base
  refine Runs.mk a1a Tryd.call49 Tryd.func49 rfl Tryd.ntmps49 Tryd.results49 rfl ?_
  (repeat' (first
  | refine SP ?_
  | refine a0l ?_
  ))
  refine a00 (σ := Nat) (fun x => x <= l.length) (fun x => ⟨[(1, .val (.int .i64 d)), (2, .ptr 1 1 0 0), (3, .ptr 2 1 0 0), (4, .ptr 3 1 0 0), (7, .sl 6 1 0 ((l.take x).foldl (lvR rs d) (D, [])).2.length none), (12, .sl 0 1 0 l.length cap), (13, .val (.int .i64 l.length)), (14, .val (.int .i64 x))], [iB false l, .var [.sl 4 1 0 n none], .var [.sl 5 1 0 n none], .var [.fn (.func 49) [.ptr 1 1 0 0, .ptr 2 1 0 0, .ptr 3 1 0 0]], nR n rs, iB true ((l.take x).foldl (lvR rs d) (D, [])).1, iB true ((l.take x).foldl (lvR rs d) (D, [])).2]⟩) (fun x => l.length - x) (0) ?_ ?_ ?_
  ·omega
  ·(apply a0t [some 0, some 1, some 2, some 3, some 4, some 5, none]; (focus (iterate 2 (all_goals (repeat' (first | exact a0z rfl rfl rfl | exact a0c | exact trivial | refine SP ?_ | refine And.intro ?_ ?_ | refine a0b ?_ ?_ | refine a2z ?_ | refine a0n ?_ | exact a0d rfl rfl | exact a0i rfl rfl rfl | exact a0a _ _ | exact a0f rfl rfl rfl | exact a3a rfl | ((refine a52 ?_); first | with_reducible rfl | omega | ((try simp only [wS]); omega) | rfl) ))))); any_goals (apply a0h; rfl))
  rintro k hk
  have hok := okK k
  by_cases hkl : k < l.length
  ·have hS := a8c (lvR rs d) (D, []) l k 0 hkl
   have hz : 0 + Int.toNat k = k := by omega
   generalize (l.take k).foldl (lvR rs d) (D, []) = p at *
   have hx := hl (l.getD k 0) (a6r l k 0 hkl)
   generalize hX : l.getD k 0 = X at *
   have hX' : l.getD (0 + Int.toNat k) 0 = X := by rw [hz]; exact hX
   obtain ⟨a, rfl⟩ := Int.eq_ofNat_of_zero_le hx.1
   have hrr := hrow a
   have hra := hr a
   generalize hW : rs.getD a [] = W at *
   have hW' : (a3i a78 0 rs a).1 = W.length := by rw [a1z, hW]
   have hW2 : (a3i a78 0 rs a).2 = a2x a78 0 W := by rw [c2x, hW]
   (repeat' (first
  | refine SP ?_
  | (apply a0g <;> intro hb <;> (try simp only [nS, nT, eq_self, reduceCtorEq] at hb))
  | refine a0l ?_
  | refine OB ?_
  | omega))
   refine a00 (σ := Nat) (fun x => x <= W.length) (fun x => ⟨[(1, .val (.int .i64 d)), (2, .ptr 1 1 0 0), (3, .ptr 2 1 0 0), (4, .ptr 3 1 0 0), (7, .sl 6 1 0 ((W.take x).foldl (rlx d) p).2.length none), (12, .sl 0 1 0 l.length cap), (13, .val (.int .i64 l.length)), (14, .val (.int .i64 k)), (21, .sl 7 1 0 W.length none), (22, .val (.int .i64 W.length)), (23, .val (.int .i64 x))], [iB false l, .var [.sl 4 1 0 n none], .var [.sl 5 1 0 n none], .var [.fn (.func 49) [.ptr 1 1 0 0, .ptr 2 1 0 0, .ptr 3 1 0 0]], nR n rs, iB true ((W.take x).foldl (rlx d) p).1, iB true ((W.take x).foldl (rlx d) p).2, .row 4 a]⟩) (fun x => W.length - x) (0) ?_ ?_ ?_
   ·omega
   ·(apply a0t [some 0, some 1, some 2, some 3, some 4, some 5, some 6, some 7]; (focus (iterate 2 (all_goals (repeat' (first | exact a0z rfl rfl rfl | (refine a1u rfl ?_) | exact a0c | exact trivial | refine SP ?_ | refine And.intro ?_ ?_ | refine a0b ?_ ?_ | refine a2z ?_ | refine a0n ?_ | exact a0d rfl rfl | exact a0i rfl rfl rfl | exact a0a _ _ | exact a0f rfl rfl rfl | ((first | refine a0r ?_ | refine a0i rfl rfl ?_ | show (_ : Nat) = _); first | with_reducible rfl | omega | ((try simp only [wS]); omega) | rfl) | refine a0r ?_ | refine a0i rfl rfl ?_ ))))); any_goals (apply a0h; rfl))
    all_goals (rw [hX', Int.toNat_natCast, Nat.zero_add, hW'])
   rintro j hj
   have hokj : LvOK n (ngs D) ((W.take j).foldl (rlx d) p) := b4t hd _ _ hok fun x hx => hra x (List.mem_of_mem_take hx)
   have hzj : 0 + Int.toNat j = j := by omega
   by_cases hjW : j < W.length
   ·have hS2 := a8c (rlx d) p W j 0 hjW
    have hY := hra (W.getD j 0) (a6r W j 0 hjW)
    have hYe : (rs.getD a []).getD (0 + Int.toNat j) 0 = W.getD j 0 := by rw [hW, hzj]
    rw [<- hYe] at hS2 hY
    generalize hq : (W.take j).foldl (rlx d) p = q at *
    have hneg : q.1.getD (0 + Int.toNat ((rs.getD a []).getD (0 + Int.toNat j) 0)) 0 < 0 -> (W.take (j + 1)).foldl (rlx d) p = (q.1.set (0 + Int.toNat ((rs.getD a []).getD (0 + Int.toNat j) 0)) (d + 1), q.2 ++ [(rs.getD a []).getD (0 + Int.toNat j) 0]) := fun h => by
     simp only [Nat.zero_add] at h hS2 ⊢; rw [hS2]; unfold rlx; rw [if_pos h]
    have hpos : 0 <= q.1.getD (0 + Int.toNat ((rs.getD a []).getD (0 + Int.toNat j) 0)) 0 -> (W.take (j + 1)).foldl (rlx d) p = q := fun h => by
     simp only [Nat.zero_add] at h hS2 ⊢; rw [hS2]; unfold rlx; rw [if_neg (by omega)]
    have hq1 := hokj.len
    have hq2 := hokj.cnt
    (repeat' (first
  | refine SP ?_
  | (apply a0g <;> intro hb <;> (try simp only [nS, nT, eq_self, reduceCtorEq] at hb))
  | refine a0l ?_
  | refine OB ?_
  | (have e := hneg hb; (apply a0m (Subtype.mk (j + 1) (by first | omega | (simp only; omega))); (focus (simp only [e]; apply a0t [some 0, some 1, some 2, some 3, some 4, some 5, some 9, some 7]; (focus (iterate 2 (all_goals (repeat' (first | exact a0z rfl rfl rfl | exact a1u rfl rfl | (refine b5s rfl (a0b (a0r ?_) a0c) ?_ rfl rfl rfl) | exact a0c | exact trivial | refine SP ?_ | refine And.intro ?_ ?_ | refine a0b ?_ ?_ | refine a2z ?_ | refine a0n ?_ | exact a0d rfl rfl | exact a0i rfl rfl rfl | exact a0a _ _ | exact a0f rfl rfl rfl | ((first | refine a0r ?_ | refine a0i rfl rfl ?_ | show (_ : Nat) = _); first | with_reducible rfl | omega | ((try simp only [wS]); omega) | rfl) | apply a1l | refine a0y ?_ ?_ | exact a2o | with_reducible rfl | refine a0i rfl rfl ?_ ))))); any_goals (apply a0h; rfl))); (all_goals (try (first | omega | (simp only; omega))))))
  | (have e := hpos hb; (apply a0m (Subtype.mk (j + 1) (by first | omega | (simp only; omega))); (focus (simp only [e]; apply a0t [some 0, some 1, some 2, some 3, some 4, some 5, some 6, some 7]; (focus (iterate 2 (all_goals (repeat' (first | exact a0z rfl rfl rfl | exact a1u rfl rfl | exact a0c | exact trivial | refine SP ?_ | refine And.intro ?_ ?_ | refine a0b ?_ ?_ | refine a2z ?_ | refine a0n ?_ | exact a0d rfl rfl | exact a0i rfl rfl rfl | exact a0a _ _ | exact a0f rfl rfl rfl | ((refine a0r ?_); first | with_reducible rfl | omega | ((try simp only [wS]); omega) | rfl) ))))); any_goals (apply a0h; rfl))); (all_goals (try (first | (simp only; omega))))))
  | omega))
    all_goals (try (simp only [List.length_append, List.length_cons, List.length_nil]; done))
    all_goals (try exact c04 (by omega) (by omega))
   ·have hjj : j = W.length := by omega
    subst hjj
    rw [List.take_length] at *
    have hS' : (l.take (k + 1)).foldl (lvR rs d) (D, []) = W.foldl (rlx d) p := by rw [hS]; unfold lvR; rw [Int.toNat_natCast, hW]
    (repeat' (first
  | refine SP ?_
  | (apply a0g <;> intro hb <;> (try simp only [nS, nT, eq_self, reduceCtorEq] at hb))
  | refine a0l ?_
  | refine OB ?_
  | (apply a0m (Subtype.mk (k + 1) (by first | omega | (simp only; omega))); (focus (simp only [hS']; apply a0t [some 0, some 1, some 2, some 3, some 4, some 5, some 6]; (focus (iterate 2 (all_goals (repeat' (first | exact a0z rfl rfl rfl | exact a0c | exact trivial | refine SP ?_ | refine And.intro ?_ ?_ | refine a0b ?_ ?_ | refine a2z ?_ | refine a0n ?_ | exact a0d rfl rfl | exact a0i rfl rfl rfl | exact a0a _ _ | exact a0f rfl rfl rfl | ((first | refine a0r ?_ | refine a0i rfl rfl ?_ | show (_ : Nat) = _); first | with_reducible rfl | omega | ((try simp only [wS]); omega) | rfl) | refine a0f rfl ?_ ?_ ))))); any_goals (apply a0h; rfl))); (all_goals (try (first | omega | (simp only; omega)))))
  ))
  ·have hkk : k = l.length := by omega
   subst hkk
   rw [List.take_length] at hok
   rw [List.take_length]
   have hok : LvOK n (ngs D) (lvF rs d l D) := hok
   rw [show l.foldl (lvR rs d) (D, []) = lvF rs d l D from rfl]
   have hq1 := hok.len
   have hq2 := hok.cnt
   have hBF : bfs rs (m + 1) d l D = if (lvF rs d l D).2.length = 0 then (lvF rs d l D).1 else bfs rs m (d + 1) (lvF rs d l D).2 (lvF rs d l D).1 := rfl
   have hrg := hok.rng
   generalize lvF rs d l D = q at *
   have hle := c66 q.1
   by_cases h0 : q.2.length = 0
   ·have e : bfs rs (m + 1) d l D = q.1 := by rw [hBF, if_pos h0]
    rw [e]
    (repeat' (first
  | refine SP ?_
  | (apply a0g <;> intro hb <;> (try simp only [nS, nT, eq_self, reduceCtorEq] at hb))
  | refine a0l ?_
  | refine OB ?_
  | (apply a04 [some 0, some 1, some 2, some 3, some 4, some 5]; (focus (iterate 2 (all_goals (repeat' (first | exact a0z rfl rfl rfl | exact a0c | exact trivial | refine SP ?_ | refine And.intro ?_ ?_ | refine a0b ?_ ?_ | refine a3m ?_ | refine a2z ?_ | refine a0n ?_ | exact a0d rfl rfl | exact a0i rfl rfl rfl | exact a0f rfl rfl rfl ))))); any_goals (apply a0h; rfl))
  | omega))
   ·have e : bfs rs (m + 1) d l D = bfs rs m (d + 1) q.2 q.1 := by rw [hBF, if_neg h0]
    rw [e]
    have ih := b56 n hn rs hr hrl hrow m q.2 q.1 (d + 1) none (by omega) hq1 hrg (by omega) (by omega) (by omega)
    (repeat' (first
  | refine SP ?_
  | (apply a0g <;> intro hb <;> (try simp only [nS, nT, eq_self, reduceCtorEq] at hb))
  | refine a0l ?_
  | refine OB ?_
  | ((first | apply a0j [some 6, some 1, some 2, some 3, some 4, some 5] (ih) ); (focus ((iterate 2 (all_goals (repeat' (first | exact a0z rfl rfl rfl | exact a0c | exact trivial | refine SP ?_ | refine And.intro ?_ ?_ | refine a0b ?_ ?_ | refine a2z ?_ | refine a0n ?_ | exact a0d rfl rfl | exact a0i rfl rfl rfl | exact a0f rfl rfl rfl | ((refine a0r ?_); first | with_reducible rfl | omega | ((try simp only [wS]); omega) | rfl) )))))); any_goals (apply a0k; rfl))
  | (apply a04 [some 0, some 1, some 2, some 3, some 4, some 5]; (focus (iterate 2 (all_goals (repeat' (first | exact a0z rfl rfl rfl | exact a0c | exact trivial | refine SP ?_ | refine And.intro ?_ ?_ | refine a0b ?_ ?_ | refine a3m ?_ | refine a2z ?_ | refine a0n ?_ | exact a0d rfl rfl | exact a0i rfl rfl rfl | exact a0f rfl rfl rfl | exact a06 rfl rfl rfl | ((first | show (_ : Nat) = _); first | with_reducible rfl | omega | ((try simp only [wS]); omega) | rfl) | refine a0f rfl ?_ ?_ ))))); any_goals (apply a0h; rfl))
  | omega))
end Go.Vx.L42
set_option maxRecDepth 100000
namespace Go.Vx.L42
open Go Go.Proofs
theorem c2s {ρ : Nat -> Option Nat} {ρ' : Nat -> Nat} {α : Type} {cells : α -> List AV} [FlatC cells] {d : α} {rw : Bool} {t e n n' i k : Nat} {l l' : List α} {x : α} {vs : List AV} (hl : l' = l.set i x) (hv : a4w ρ (cells x) vs) (hi : i < l.length) (hk : k = e) (hn : n = l'.length) (hn' : n' = l.length) :
  a3n ρ (.arr rw t e n (a2x cells d l')) (.arr true t e n' fun i' j' => bif Nat.beq i' i && (Nat.ble 0 j' && Nat.blt j' (0 + k)) then vs.getD (j' - 0) .dead else (a2x cells d l i' j').ren ρ') := by
 have e2 : ∀ i j, (a2x cells d l i j).ren ρ' = a2x cells d l i j := fun i j => b21 FlatC.flat ρ' d l i j
 simp only [e2]
 exact b5s hl hv hi hk hn hn'
theorem c1n (n : Int) : ∀ (l : List Ed) (seen : List (List Int)), ckL n l seen = 0 -> ∀ e ∈ l, (b1c n e.a e.pa = true /\ b1c n e.b e.pb = true) /\ e.a ≠ e.b
 | [], _, _, e, he => by cases he
 | x :: r, seen, h, e, he => by
  unfold ckL at h
  split at h
  ·cases h
  ·rename_i h1
   split at h
   ·cases h
   ·rename_i h2
    split at h
    ·cases h
    ·rcases List.mem_cons.1 he with rfl | he
     ·exact ⟨by simpa using h1, h2⟩
     ·exact c1n n r _ h e he
def b9g (n : Nat) (e : Ed) : Prop := (0 <= e.a /\ e.a < n) /\ (0 <= e.b /\ e.b < n) /\ e.a ≠ e.b
theorem a6g {n : Int} {l : List Ed} (h : ckC n l = 0) : ∃ m : Nat, n = m /\ (1 <= m /\ m <= 24) /\ l.length <= 64 /\ ∀ e ∈ l, b9g m e := by
 unfold ckC at h
 split at h
 ·cases h
 ·split at h
  ·cases h
  ·refine ⟨n.toNat, by omega, by omega, by omega, fun e he => ?_⟩
   obtain ⟨⟨h1, h2⟩, h3⟩ := c1n n l _ h e he
   simp only [b1c, decide_eq_true_eq] at h1 h2
   exact ⟨by omega, by omega, h3⟩
theorem c55 (l : List Int) (x : Int) : x ∈ srt l ↔ x ∈ l := List.mem_mergeSort
def c4l (e : Ed) (i : Nat) (y : Int) : Prop := (e.a = i /\ y = e.b) \/ (e.b = i /\ y = e.a)
theorem c5j {n : Nat} {rs : List (List Int)} (hr : rs.length = n) {e : Ed} (he : b9g n e) {i : Nat} (hi : i < n) (y : Int) : y ∈ (stN rs e).getD i [] ↔ y ∈ rs.getD i [] \/ c4l e i y := by
 obtain ⟨h1, h2, h3⟩ := he
 unfold stN c4l
 rw [a3e, a3e, a3e]
 have ha : ((e.a.toNat : Nat) : Int) = e.a := by omega
 have hb : ((e.b.toNat : Nat) : Int) = e.b := by omega
 by_cases hib : i = e.b.toNat
 ·rw [if_pos ⟨hib, by simp; omega⟩, if_neg (by omega)]
  subst hib
  simp only [List.mem_append, List.mem_singleton]
  constructor
  ·rintro (h | rfl)
   ·exact .inl h
   ·exact .inr (.inr ⟨by omega, rfl⟩)
  ·rintro (h | ⟨h, _⟩ | ⟨_, rfl⟩)
   ·exact .inl h
   ·omega
   ·exact .inr rfl
 ·rw [if_neg (fun h => hib h.1)]
  by_cases hia : i = e.a.toNat
  ·rw [if_pos ⟨hia, by omega⟩]
   subst hia
   simp only [List.mem_append, List.mem_singleton]
   constructor
   ·rintro (h | rfl)
    ·exact .inl h
    ·exact .inr (.inl ⟨by omega, rfl⟩)
   ·rintro (h | ⟨_, rfl⟩ | ⟨h, _⟩)
    ·exact .inl h
    ·exact .inr rfl
    ·omega
  ·rw [if_neg (fun h => hia h.1)]
   constructor
   ·exact .inl
   ·rintro (h | ⟨h, _⟩ | ⟨h, _⟩)
    ·exact h
    ·omega
    ·omega
theorem c5u {n : Nat} {l : List Ed} (hl : ∀ e ∈ l, b9g n e) {i : Nat} (hi : i < n) (y : Int) : y ∈ (nrU n l).getD i [] ↔ ∃ e ∈ l, c4l e i y := by
 have gen : ∀ (l : List Ed) (rs : List (List Int)), rs.length = n -> (∀ e ∈ l, b9g n e) -> (y ∈ (l.foldl stN rs).getD i [] ↔ y ∈ rs.getD i [] \/ ∃ e ∈ l, c4l e i y) := by
  intro l
  induction l with
  | nil => intro rs _ _; simp
  | cons e r ih =>
   intro rs hr he
   rw [List.foldl_cons, ih _ (by rw [c1m, hr]) fun x hx => he x (by simp [hx]), c5j hr (he e (by simp)) hi]
   constructor
   ·rintro ((h | h) | ⟨x, hx, h⟩)
    ·exact .inl h
    ·exact .inr ⟨e, by simp, h⟩
    ·exact .inr ⟨x, by simp [hx], h⟩
   ·rintro (h | ⟨x, hx, h⟩)
    ·exact .inl (.inl h)
    ·rcases List.mem_cons.1 hx with rfl | hx
     ·exact .inl (.inr h)
     ·exact .inr ⟨x, hx, h⟩
 unfold nrU
 rw [gen l _ (by simp) hl]
 have : (List.replicate n ([] : List Int)).getD i [] = [] := by
  rw [List.getD_eq_getElem?_getD, List.getElem?_replicate]
  split <;> rfl
 rw [this]
 simp
theorem b87 (n : Nat) (l : List Ed) : (nrF n l).length = n := by rw [nrF, List.length_map, a98]
theorem c1t (n : Nat) (l : List Ed) (i : Nat) : (nrF n l).getD i [] = srt ((nrU n l).getD i []) := by
 unfold nrF
 by_cases h : i < n
 ·have := a98 n l
  rw [List.getD_eq_getElem?_getD, List.getD_eq_getElem?_getD, List.getElem?_map, List.getElem?_eq_getElem (by omega)]; rfl
 ·have := a98 n l
  rw [List.getD_eq_getElem?_getD, List.getD_eq_getElem?_getD, List.getElem?_map, List.getElem?_eq_none (by omega)]
  simp [srt]
theorem b8h {n : Nat} {l : List Ed} (hl : ∀ e ∈ l, b9g n e) {i : Nat} (hi : i < n) (y : Int) : y ∈ (nrF n l).getD i [] ↔ ∃ e ∈ l, c4l e i y := by
 rw [c1t, c55, c5u hl hi]
theorem c30 {n : Nat} {l : List Ed} (hl : ∀ e ∈ l, b9g n e) : b1k n (nrF n l) := fun i x hx => by
 by_cases hi : i < n
 ·obtain ⟨e, he, h⟩ := (b8h hl hi x).1 hx
  obtain ⟨h1, h2, _⟩ := hl e he
  rcases h with ⟨_, rfl⟩ | ⟨_, rfl⟩ <;> omega
 ·have := b87 n l
  rw [List.getD_eq_getElem?_getD, List.getElem?_eq_none (by omega)] at hx
  cases hx
theorem c5s (n : Nat) (l : List Ed) (hl : l.length <= 64) (i : Nat) : ((nrF n l).getD i []).length <= 1000 := by
 rw [c1t, b43]
 have := b2a n l i l.length (Nat.le_refl _)
 rw [List.take_length] at this
 omega
def dsF (n : Nat) (l : List Ed) (a : Nat) : List Int := bfs (nrF n l) 24 0 [(a : Int)] ((List.replicate n (-1)).set a 0)
def dsA (n : Int) (l : List Ed) (a : Int) : List Int := if hasB n l a = true then dsF n.toNat l a.toNat else []
theorem c1e (n : Nat) : ngs (List.replicate n (-1)) = n := by
 induction n with
 | zero => rfl
 | succ n ih =>
  unfold ngs at *
  rw [List.replicate_succ, List.countP_cons, ih]; rfl
theorem b9x {n : Nat} (rs : List (List Int)) (hr : b1k n rs) : ∀ (m : Nat) (d : Int) (l D : List Int), 0 <= d -> D.length = n -> (bfs rs m d l D).length = n
 | 0, _, _, D, _, h => h
 | m + 1, d, l, D, hd, h => by
  have hok : LvOK n (ngs D) (lvF rs d l D) := b6a hd hr l _ ⟨h, rfl, fun x hx => by cases hx⟩
  unfold bfs
  split
  ·exact hok.len
  ·exact b9x rs hr m (d + 1) _ _ (by omega) hok.len
set_option maxHeartbeats 1000000 in
theorem c45 (n : Int) (l : List Ed) (cap : Option Nat) (hl : l.length <= maxLen) (a : Int) :
  Runs Tryd.prog 23 [gA n l cap, .val (.int .i64 a)] [gB l] (Det (.sl 1 1 0 (dsA n l a).length none) [gB l, iB true (dsA n l a)]) := by
 have hh := b85 n l cap hl a
 by_cases hb : hasB n l a = true
 rotate_left
 ·have e : dsA n l a = [] := if_neg hb
  have hb' : hasB n l a = false := by simpa using hb
  rw [e]
  rw [hb'] at hh
  refine Runs.mk a1a Tryd.call23 Tryd.func23 rfl Tryd.ntmps23 Tryd.results23 rfl ?_
  (repeat' (first
  | refine SP ?_
  | (apply a0g <;> intro hb <;> (try simp only [nS, nT, eq_self, reduceCtorEq] at hb))
  | refine a0l ?_
  | ((first | apply a1y (hh) ); (focus (iterate 2 (all_goals (repeat' (first | exact a0c | exact trivial | refine SP ?_ | refine And.intro ?_ ?_ | refine a0b ?_ ?_ | refine a0o ?_ | exact a0i rfl rfl rfl | exact a0a _ _ | exact a0f rfl rfl rfl ))))); (try (any_goals fail)))
  | (apply a04 [some 0, none]; (focus (iterate 2 (all_goals (repeat' (first | exact trivial | refine SP ?_ | refine And.intro ?_ ?_ | exact a0f rfl rfl rfl | exact a3a rfl | ((refine a52 ?_); first | with_reducible rfl | omega | ((try simp only [wS]); omega) | rfl) ))))); any_goals (apply a0h; rfl))
  ))
 have e : dsA n l a = dsF n.toNat l a.toNat := if_pos hb
 rw [e]
 have hb0 := hb
 rw [hb] at hh
 simp only [hasB, decide_eq_true_eq] at hb
 obtain ⟨hc, ha0, ha1⟩ := hb
 obtain ⟨m, rfl, hm, hl64, hed⟩ := a6g hc
 obtain ⟨a, rfl⟩ := Int.eq_ofNat_of_zero_le ha0
 simp only [Int.toNat_natCast]
 have hnb := b3d m l cap hm hl64 fun k hk => hed _ (a6r l k ed0 hk)
 have hun := b7h m hm.1 (by omega) l cap
 have hin := c30 hed
 have hlen := b87 m l
 have hrow := c5s m l hl64
 have hng := b2o (List.replicate m (-1)) a 0 (by simp; omega) (by rw [List.getD_eq_getElem?_getD, List.getElem?_replicate, if_pos (by omega)]; decide) (by decide)
 rw [c1e] at hng
 have hv := b56 m hm (nrF m l) hin hlen hrow 24 [(a : Int)] ((List.replicate m (-1)).set a 0) 0 (some 1) (by omega) (by simp) (fun x hx => by simp at hx; subst hx; omega) (by simp) (by decide) (by decide)
 rw [show bfs (nrF m l) 24 0 [(a : Int)] ((List.replicate m (-1)).set a 0) = dsF m l a from rfl] at hv
 have hdl : (dsF m l a).length = m := b9x (n := m) _ hin _ _ _ _ (Int.le_refl _) (by simp)
 have hrl : (List.replicate m (-1 : Int)).length = m := by simp
 generalize List.replicate m (-1 : Int) = Z at *
 generalize dsF m l a = D at *
 generalize nrF m l = R at *
 rw [show Z.set a 0 = Z.set (0 + Int.toNat (a : Int)) 0 by simp] at hv
 refine Runs.mk a1a Tryd.call23 Tryd.func23 rfl Tryd.ntmps23 Tryd.results23 rfl ?_
 (repeat' (first
  | refine SP ?_
  | (apply a0g <;> intro hb <;> (try simp only [nS, nT, eq_self, reduceCtorEq] at hb))
  | refine a0u (by decide +kernel) ?_
  | refine a0l ?_
  | refine OB ?_
  | ((first | apply a1y (hh) ); (focus ((iterate 2 (all_goals (repeat' (first | exact a0c | exact trivial | refine SP ?_ | refine And.intro ?_ ?_ | refine a0b ?_ ?_ | refine a0o ?_ | exact a0i rfl rfl rfl | exact a0a _ _ | exact a0f rfl rfl rfl )))); done)); (try (any_goals fail)))
  | ((first | apply c1c (hnb)); (focus ((iterate 2 (all_goals (repeat' (first | exact a0c | exact trivial | refine SP ?_ | refine And.intro ?_ ?_ | refine a0b ?_ ?_ | refine a0o ?_ | exact a0i rfl rfl rfl | exact a0a _ _ | exact a0f rfl rfl rfl )))); done)); (try (any_goals (first | (apply b0q; rfl)))))
  | ((first | apply c1c (hun)); (focus ((iterate 2 (all_goals (repeat' (first | exact a0c | exact trivial | refine SP ?_ | refine And.intro ?_ ?_ | refine a0b ?_ ?_ | refine a0o ?_ | exact a0i rfl rfl rfl | exact a0a _ _ | exact a0f rfl rfl rfl )))); done)); (try (any_goals (first | (apply b0q; rfl)))))
  | ((first | apply a0j [some 7, some 4, some 5, some 6, some 2, some 3] (hv) ); (focus ((iterate 2 (all_goals (repeat' (first | exact c1v rfl rfl rfl | (refine c2s rfl (a0b (a0r ?_) a0c) ?_ rfl rfl rfl) | exact a0c | exact trivial | refine SP ?_ | refine And.intro ?_ ?_ | refine a0b ?_ ?_ | refine a2z ?_ | refine a0n ?_ | exact a0d rfl rfl | exact a0i rfl rfl rfl | exact a0a _ _ | refine a0y ?_ ?_ | exact a2o | with_reducible rfl | (apply a4e rfl; (focus (refine a0y ?_ ?_))) )))))); any_goals (apply a0k; rfl))
  | (apply a04 [some 0, some 3]; (focus (iterate 2 (all_goals (repeat' (first | exact trivial | refine SP ?_ | refine And.intro ?_ ?_ | exact a0f rfl rfl rfl | exact a06 rfl rfl rfl | ((refine a0i rfl rfl ?_); first | with_reducible rfl | omega | ((try simp only [wS]); omega) | rfl) ))))); any_goals (apply a0h; rfl))
  | omega))
end Go.Vx.L42
set_option maxRecDepth 100000
namespace Go.Vx.L42
open Go Go.Proofs
def Adj (l : List Ed) (i : Nat) (y : Int) : Prop := ∃ e ∈ l, c4l e i y
theorem Adj.symm {l : List Ed} {i y : Nat} (h : Adj l i (y : Int)) : Adj l y (i : Int) := by
 obtain ⟨e, he, h⟩ := h
 refine ⟨e, he, ?_⟩
 rcases h with ⟨h1, h2⟩ | ⟨h1, h2⟩
 ·exact .inr ⟨h2.symm, h1.symm⟩
 ·exact .inl ⟨h2.symm, h1.symm⟩
theorem Adj.lt {n : Nat} {l : List Ed} (hl : ∀ e ∈ l, b9g n e) {i : Nat} {y : Int} (h : Adj l i y) : i < n /\ (0 <= y /\ y < n) /\ y ≠ i := by
 obtain ⟨e, he, h⟩ := h
 obtain ⟨h1, h2, h3⟩ := hl e he
 rcases h with ⟨h4, rfl⟩ | ⟨h4, rfl⟩ <;> refine ⟨by omega, by omega, by omega⟩
structure IsD (n : Nat) (l : List Ed) (a : Nat) (D : List Int) : Prop where
 len : D.length = n
 low : ∀ i < n, -1 <= D.getD i 0
 zero : D.getD a 0 = 0
 edge : ∀ i < n, ∀ y < n, Adj l i ((y : Nat) : Int) -> 0 <= D.getD i 0 -> 0 <= D.getD y 0 /\ D.getD y 0 <= D.getD i 0 + 1
 back : ∀ i < n, 0 <= D.getD i 0 -> i = a \/ ∃ y < n, Adj l i ((y : Nat) : Int) /\ D.getD y 0 + 1 = D.getD i 0 /\ 0 <= D.getD y 0
theorem c14 {n : Nat} {D E : List Int} (h1 : D.length = n) (h2 : E.length = n) (h : ∀ i < n, D.getD i 0 = E.getD i 0) : D = E := by
 apply List.ext_getElem (by rw [h1, h2])
 intro i hi hj
 have := h i (by omega)
 rw [List.getD_eq_getElem?_getD, List.getElem?_eq_getElem hi, List.getD_eq_getElem?_getD, List.getElem?_eq_getElem hj] at this
 simpa using this
theorem IsD.tri {n : Nat} {l : List Ed} {b y : Nat} {E F : List Int} (h : IsD n l b E) (g : IsD n l y F) (hb : b < n) (hy : y < n) (hby : Adj l b (y : Int)) : ∀ (k : Nat) (i : Nat), i < n -> F.getD i 0 = k -> 0 <= E.getD i 0 /\ E.getD i 0 <= k + 1
 | k, i, hi, hk => by
  rcases g.back i hi (by omega) with rfl | ⟨z, hz, ha, h1, h2⟩
  ·have := h.edge b hb i hy hby (by rw [h.zero]; exact Int.le_refl _)
   have := h.zero
   omega
  ·match k with
   | 0 => omega
   | k + 1 =>
    have ih := IsD.tri h g hb hy hby k z hz (by omega)
    have := h.edge z hz i hi ha.symm ih.1
    omega
theorem a9k {n : Nat} {l : List Ed} {D : Nat -> List Int} (h : ∀ a < n, IsD n l a (D a)) : ∀ (k a b : Nat), a < n -> b < n -> (D a).getD b 0 = k -> 0 <= (D b).getD a 0 /\ (D b).getD a 0 <= k
 | k, a, b, ha, hb, hk => by
  rcases (h a ha).back b hb (by omega) with rfl | ⟨y, hy, hA, h1, h2⟩
  ·rw [(h b hb).zero]; omega
  ·match k with
   | 0 => omega
   | k + 1 =>
    have ih := a9k h k a y ha hy (by omega)
    obtain ⟨k', hk'⟩ := Int.eq_ofNat_of_zero_le ih.1
    have := (h b hb).tri (h y hy) hb hy hA k' a ha hk'
    omega
theorem c29 {n : Nat} {l : List Ed} {D : Nat -> List Int} (h : ∀ a < n, IsD n l a (D a)) (a b : Nat) (ha : a < n) (hb : b < n) : (D a).getD b 0 = (D b).getD a 0 := by
 have h1 := (h a ha).low b hb
 have h2 := (h b hb).low a ha
 by_cases hD : 0 <= (D a).getD b 0
 ·obtain ⟨k, hk⟩ := Int.eq_ofNat_of_zero_le hD
  have a1 := a9k h k a b ha hb hk
  obtain ⟨k', hk'⟩ := Int.eq_ofNat_of_zero_le a1.1
  have a2 := a9k h k' b a hb ha hk'
  omega
 ·by_cases hE : 0 <= (D b).getD a 0
  ·obtain ⟨k', hk'⟩ := Int.eq_ofNat_of_zero_le hE
   have a2 := a9k h k' b a hb ha hk'
   omega
  ·omega
theorem b3f {n : Nat} {d : Int} (hd : 0 <= d) : ∀ (xs : List Int) (p : List Int × List Int), p.1.length = n -> (∀ x ∈ xs, 0 <= x /\ x < (n : Int)) ->
  (∀ i < n, (xs.foldl (rlx d) p).1.getD i 0 = if p.1.getD i 0 < 0 /\ (i : Int) ∈ xs then d + 1 else p.1.getD i 0) /\ ∀ x, x ∈ (xs.foldl (rlx d) p).2 ↔ x ∈ p.2 \/ (x ∈ xs /\ p.1.getD x.toNat 0 < 0)
 | [], p, _, _ => ⟨fun i _ => by simp, fun x => by simp⟩
 | x :: xs, p, hp, hx => by
  obtain ⟨x0, x1⟩ := hx x (by simp)
  have hp' : (rlx d p x).1.length = n := by unfold rlx; split <;> simp [hp]
  have ih := b3f hd xs (rlx d p x) hp' fun y hy => hx y (by simp [hy])
  rw [List.foldl_cons]
  by_cases hn : p.1.getD x.toNat 0 < 0
  ·have e : rlx d p x = (p.1.set x.toNat (d + 1), p.2 ++ [x]) := if_pos hn
   rw [e] at ih ⊢
   refine ⟨fun i hi => ?_, fun z => ?_⟩
   ·rw [ih.1 i hi]
    by_cases hix : i = x.toNat
    ·subst hix
     have hm : ((x.toNat : Nat) : Int) ∈ x :: xs := by rw [show ((x.toNat : Nat) : Int) = x by omega]; simp
     have hs : (p.1.set x.toNat (d + 1)).getD x.toNat 0 = d + 1 := by rw [a3e, if_pos ⟨rfl, by omega⟩]
     show (if (p.1.set x.toNat (d + 1)).getD x.toNat 0 < 0 /\ _ then _ else (p.1.set x.toNat (d + 1)).getD x.toNat 0) = _
     rw [hs, if_neg (by omega), if_pos ⟨hn, hm⟩]
    ·have hs : (p.1.set x.toNat (d + 1)).getD i 0 = p.1.getD i 0 := by rw [a3e, if_neg (fun h => hix h.1)]
     show (if (p.1.set x.toNat (d + 1)).getD i 0 < 0 /\ _ then _ else (p.1.set x.toNat (d + 1)).getD i 0) = _
     rw [hs]
     have hm : ((i : Nat) : Int) ∈ x :: xs ↔ ((i : Nat) : Int) ∈ xs := by
      simp only [List.mem_cons, or_iff_right_iff_imp]; intro h; omega
     simp only [hm]
   ·rw [ih.2 z]
    simp only [a3e, List.mem_append, List.mem_cons, List.not_mem_nil, or_false]
    by_cases hzx : z = x
    ·subst hzx; exact ⟨fun _ => .inr ⟨.inl rfl, hn⟩, fun _ => .inl (.inr rfl)⟩
    ·by_cases hz : z ∈ xs
     ·have := hx z (by simp [hz])
      rw [if_neg (fun h => hzx (by omega))]
      simp [hzx, hz]
     ·simp [hzx, hz]
  ·have e : rlx d p x = p := if_neg hn
   rw [e] at ih ⊢
   refine ⟨fun i hi => ?_, fun z => ?_⟩
   ·rw [ih.1 i hi]
    by_cases hix : i = x.toNat
    ·subst hix
     rw [if_neg (fun h => hn h.1), if_neg (fun h => hn h.1)]
    ·have hm : ((i : Nat) : Int) ∈ x :: xs ↔ ((i : Nat) : Int) ∈ xs := by
      simp only [List.mem_cons, or_iff_right_iff_imp]; intro h; omega
     simp only [hm]
   ·rw [ih.2 z]
    simp only [List.mem_cons]
    by_cases hzx : z = x
    ·subst hzx; exact ⟨fun h => h.elim .inl fun h => absurd h.2 hn, fun h => h.elim .inl fun h => absurd h.2 hn⟩
    ·simp [hzx]
theorem c2c (rs : List (List Int)) (d : Int) (l D : List Int) : lvF rs d l D = (l.flatMap fun a => rs.getD a.toNat []).foldl (rlx d) (D, []) := by
 unfold lvF
 generalize (D, ([] : List Int)) = p
 induction l generalizing p with
 | nil => rfl
 | cons a l ih => rw [List.foldl_cons, ih, List.flatMap_cons, List.foldl_append]; rfl
def b4j (n : Nat) (l : List Ed) (rs : List (List Int)) : Prop := ∀ i < n, ∀ y, y ∈ rs.getD i [] ↔ Adj l i y
open Classical in
theorem c2i {n : Nat} {l : List Ed} (hl : ∀ e ∈ l, b9g n e) {rs : List (List Int)} (hr : b4j n l rs) {d : Int} (hd : 0 <= d) {lev D : List Int} (hD : D.length = n) (hv : ∀ x ∈ lev, 0 <= x /\ x < (n : Int)) :
  (∀ i < n, (lvF rs d lev D).1.getD i 0 = if D.getD i 0 < 0 /\ (∃ p ∈ lev, Adj l p.toNat ((i : Nat) : Int)) then d + 1 else D.getD i 0) /\ ∀ x, x ∈ (lvF rs d lev D).2 ↔ (∃ p ∈ lev, Adj l p.toNat x) /\ D.getD x.toNat 0 < 0 := by
 rw [c2c]
 have hm : ∀ x, x ∈ (lev.flatMap fun a => rs.getD a.toNat []) ↔ ∃ p ∈ lev, Adj l p.toNat x := fun x => by
  rw [List.mem_flatMap]
  constructor
  ·rintro ⟨p, hp, h⟩
   have := hv p hp
   exact ⟨p, hp, (hr p.toNat (by omega) x).1 h⟩
  ·rintro ⟨p, hp, h⟩
   have := hv p hp
   exact ⟨p, hp, (hr p.toNat (by omega) x).2 h⟩
 have h := b3f hd (lev.flatMap fun a => rs.getD a.toNat []) (D, []) hD fun x hx => by
  obtain ⟨p, _, h⟩ := (hm x).1 hx
  exact (h.lt hl).2.1
 refine ⟨fun i hi => ?_, fun x => ?_⟩
 ·rw [h.1 i hi]; simp only [hm]
 ·rw [h.2 x, hm]; simp
structure BfI (n : Nat) (l : List Ed) (a : Nat) (d : Int) (lev D : List Int) : Prop where
 len : D.length = n
 d0 : 0 <= d
 lo : ∀ i < n, D.getD i 0 = -1 \/ (0 <= D.getD i 0 /\ D.getD i 0 <= d)
 zero : D.getD a 0 = 0
 lev1 : ∀ i < n, D.getD i 0 = d -> ((i : Nat) : Int) ∈ lev
 lev2 : ∀ x ∈ lev, (0 <= x /\ x < (n : Int)) /\ D.getD x.toNat 0 = d
 edge : ∀ i < n, 0 <= D.getD i 0 -> D.getD i 0 < d -> ∀ y < n, Adj l i ((y : Nat) : Int) -> 0 <= D.getD y 0 /\ D.getD y 0 <= D.getD i 0 + 1
 back : ∀ i < n, 0 <= D.getD i 0 -> i = a \/ ∃ y < n, Adj l i ((y : Nat) : Int) /\ D.getD y 0 + 1 = D.getD i 0 /\ 0 <= D.getD y 0
 cnt : d + 1 + ngs D <= n
theorem c3s {n : Nat} {l : List Ed} (hl : ∀ e ∈ l, b9g n e) {rs : List (List Int)} (hr : b4j n l rs) (hin : b1k n rs) {a : Nat} (ha : a < n) : ∀ (m : Nat) (d : Int) (lev D : List Int), BfI n l a d lev D -> ngs D < m -> IsD n l a (bfs rs m d lev D) /\ ∀ i < n, (bfs rs m d lev D).getD i 0 < n
 | 0, _, _, _, _, hm => absurd hm (by omega)
 | m + 1, d, lev, D, h, hm => by
  have hs := c2i hl hr h.d0 h.len fun x hx => (h.lev2 x hx).1
  have hok : LvOK n (ngs D) (lvF rs d lev D) := b6a h.d0 hin lev _ ⟨h.len, rfl, fun x hx => by cases hx⟩
  have hB : bfs rs (m + 1) d lev D = if (lvF rs d lev D).2.length = 0 then (lvF rs d lev D).1 else bfs rs m (d + 1) (lvF rs d lev D).2 (lvF rs d lev D).1 := rfl
  rw [hB]
  generalize lvF rs d lev D = q at *
  obtain ⟨hs1, hs2⟩ := hs
  have d0 := h.d0
  have hcnt := h.cnt
  by_cases h0 : q.2.length = 0
  ·rw [if_pos h0]
   have hq2 : q.2 = [] := List.length_eq_zero_iff.1 h0
   have hno : ∀ i < n, ∀ p ∈ lev, Adj l p.toNat ((i : Nat) : Int) -> 0 <= D.getD i 0 := fun i hi p hp hA => by
    by_cases hn : D.getD i 0 < 0
    ·have := (hs2 i).2 ⟨⟨p, hp, hA⟩, by simpa using hn⟩
     rw [hq2] at this; cases this
    ·omega
   have he : q.1 = D := c14 hok.len h.len fun i hi => by
    rw [hs1 i hi]
    split
    ·rename_i hh
     obtain ⟨h1, p, hp, hA⟩ := hh
     have := hno i hi p hp hA
     omega
    ·rfl
   rw [he]
   refine ⟨⟨h.len, fun i hi => ?_, h.zero, fun i hi y hy hA hi0 => ?_, h.back⟩, fun i hi => ?_⟩
   ·rcases h.lo i hi with h1 | h1 <;> omega
   ·rcases h.lo i hi with h1 | ⟨h1, h2⟩
    ·omega
    ·by_cases hlt : D.getD i 0 < d
     ·exact h.edge i hi hi0 hlt y hy hA
     ·have hm := h.lev1 i hi (by omega)
      have h3 := hno y hy i hm (by simpa using hA)
      rcases h.lo y hy with h4 | h4 <;> omega
   ·rcases h.lo i hi with h1 | h1 <;> omega
  ·rw [if_neg h0]
   have hc := hok.cnt
   refine c3s hl hr hin ha m (d + 1) q.2 q.1 ⟨hok.len, by omega, fun i hi => ?_, ?_, fun i hi hi1 => ?_, fun x hx => ?_, fun i hi hi0 hlt y hy hA => ?_, fun i hi hi0 => ?_, by omega⟩ (by omega)
   ·rw [hs1 i hi]
    split
    ·right; omega
    ·rcases h.lo i hi with h1 | h1 <;> omega
   ·rw [hs1 a ha, h.zero, if_neg (by omega)]
   ·rw [hs1 i hi] at hi1
    split at hi1
    ·rename_i hh
     exact (hs2 i).2 ⟨hh.2, by simpa using hh.1⟩
    ·rcases h.lo i hi with h1 | h1 <;> omega
   ·have hx2 := (hs2 x).1 hx
    have hr := hok.rng x hx
    refine ⟨hr, ?_⟩
    have hxe : ((x.toNat : Nat) : Int) = x := by omega
    rw [hs1 x.toNat (by omega), if_pos ⟨hx2.2, by rw [hxe]; exact hx2.1⟩]
   ·have hDi : q.1.getD i 0 = D.getD i 0 := by
     rw [hs1 i hi] at hlt ⊢
     split at hlt
     ·omega
     ·rename_i hh; rw [if_neg hh]
    rw [hDi] at hi0 hlt ⊢
    have hqy := hs1 y hy
    rcases h.lo i hi with h1 | ⟨h1, h2⟩
    ·omega
    ·by_cases hlt' : D.getD i 0 < d
     ·have := h.edge i hi hi0 hlt' y hy hA
      rw [hqy, if_neg (by omega)]
      exact this
     ·have hm := h.lev1 i hi (by omega)
      rw [hqy]
      split
      ·omega
      ·rename_i hh
       have h3 : ¬ D.getD y 0 < 0 := fun h4 => hh ⟨h4, i, hm, by simpa using hA⟩
       rcases h.lo y hy with h4 | h4 <;> omega
   ·have hqi := hs1 i hi
    split at hqi
    ·rename_i hh
     obtain ⟨h1, p, hp, hA⟩ := hh
     have hp2 := h.lev2 p hp
     right
     refine ⟨p.toNat, by omega, hA.symm, ?_⟩
     rw [hqi, hs1 p.toNat (by omega), if_neg (by omega)]
     omega
    ·rw [hqi] at hi0
     rcases h.back i hi hi0 with h1 | ⟨y, hy, hA, h1, h2⟩
     ·exact .inl h1
     ·right
      refine ⟨y, hy, hA, ?_⟩
      rw [hqi, hs1 y hy, if_neg (by omega)]
      exact ⟨h1, h2⟩
theorem c58 {n : Nat} {l : List Ed} (hl : ∀ e ∈ l, b9g n e) : b4j n l (nrF n l) := fun _ hi y => b8h hl hi y
theorem c1b (n : Nat) (i : Nat) (hi : i < n) : (List.replicate n (-1 : Int)).getD i 0 = -1 := by
 rw [List.getD_eq_getElem?_getD, List.getElem?_replicate, if_pos hi]; rfl
theorem c37 {n : Nat} {l : List Ed} (hl : ∀ e ∈ l, b9g n e) (hn : n <= 24) {a : Nat} (ha : a < n) : IsD n l a (dsF n l a) /\ ∀ i < n, (dsF n l a).getD i 0 < n := by
 have hng := b2o (List.replicate n (-1)) a 0 (by simp; omega) (by rw [c1b n a ha]; decide) (by decide)
 rw [c1e] at hng
 have hg : ∀ i, i < n -> ((List.replicate n (-1 : Int)).set a 0).getD i 0 = if i = a then 0 else -1 := fun i hi => by
  rw [a3e, List.length_replicate]
  by_cases h : i = a
  ·rw [if_pos ⟨h, ha⟩, if_pos h]
  ·rw [if_neg (fun hh => h hh.1), if_neg h, c1b n i hi]
 refine c3s hl (c58 hl) (c30 hl) ha 24 0 _ _ ⟨by simp, Int.le_refl _, fun i hi => ?_, ?_, fun i hi h => ?_, fun x hx => ?_, fun i hi h1 h2 => ?_, fun i hi h => ?_, ?_⟩ (by omega)
 ·rw [hg i hi]; split <;> omega
 ·rw [hg a ha, if_pos rfl]
 ·rw [hg i hi] at h
  split at h
  ·rename_i e; subst e; simp
  ·omega
 ·simp only [List.mem_singleton] at hx
  subst hx
  refine ⟨by omega, ?_⟩
  rw [Int.toNat_natCast, hg a ha, if_pos rfl]
 ·omega
 ·rw [hg i hi] at h
  split at h
  ·rename_i e; exact .inl e
  ·omega
 ·simp only [Int.zero_add]; omega
end Go.Vx.L42

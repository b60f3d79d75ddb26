/- Lemmas of a small executor for the model, and contracts of functions, used for the law that this claim proves. No condition. -/
import Derived.Test.YtodbfpjjahpahaaGreatDoorEW3
import Derived.Test.YtodbfpjjahpahaaGreatDoorEG4
import Derived.Test.YtodbfpjjahpahaaGreatDoorES42
set_option linter.unusedSimpArgs false
set_option linter.unusedVariables false
set_option maxRecDepth 100000
namespace Go.Vx.L58
open Go Go.Proofs
def srt (l : List Int) : List Int := l.mergeSort fun x y => decide (x <= y)
def stN (rs : List (List Int)) (e : Ed) : List (List Int) :=
 (rs.set e.a.toNat (rs.getD e.a.toNat [] ++ [e.b])).set e.b.toNat ((rs.set e.a.toNat (rs.getD e.a.toNat [] ++ [e.b])).getD e.b.toNat [] ++ [e.a])
def nrU (n : Nat) (l : List Ed) : List (List Int) := l.foldl stN (List.replicate n [])
theorem c3t (rs : List (List Int)) (e : Ed) : (stN rs e).length = rs.length := by simp [stN]
theorem b6k (n : Nat) (l : List Ed) : (nrU n l).length = n := by
 unfold nrU
 have : ∀ (l : List Ed) (rs : List (List Int)), (l.foldl stN rs).length = rs.length := by
  intro l
  induction l with
  | nil => intro rs; rfl
  | cons e l ih => intro rs; rw [List.foldl_cons, ih, c3t]
 rw [this]; simp
def nrF (n : Nat) (l : List Ed) : List (List Int) := (nrU n l).map srt
end Go.Vx.L58
set_option maxRecDepth 100000
namespace Go.Vx.L58
open Go Go.Proofs
def rlx (d : Int) (p : List Int × List Int) (x : Int) : List Int × List Int := if p.1.getD x.toNat 0 < 0 then (p.1.set x.toNat (d + 1), p.2 ++ [x]) else p
def lvR (rs : List (List Int)) (d : Int) (p : List Int × List Int) (a : Int) : List Int × List Int := (rs.getD a.toNat []).foldl (rlx d) p
def lvF (rs : List (List Int)) (d : Int) (l : List Int) (D : List Int) : List Int × List Int := l.foldl (lvR rs d) (D, [])
def ngs (D : List Int) : Nat := D.countP fun x => decide (x < 0)
theorem b6q : ∀ (D : List Int) (i : Nat) (v : Int), i < D.length -> D.getD i 0 < 0 -> 0 <= v -> ngs (D.set i v) + 1 = ngs D
 | [], i, v, h, _, _ => by simp at h
 | x :: D, 0, v, _, h, hv => by
  have h : x < 0 := h
  have h2 : ¬ v < 0 := by omega
  simp [ngs, h, h2]
 | x :: D, i + 1, v, h, hx, hv => by
  have ih := b6q D i v (by simpa using h) hx hv
  unfold ngs at *
  simp only [List.set_cons_succ, List.countP_cons]
  omega
structure LvOK (n : Nat) (m : Nat) (p : List Int × List Int) : Prop where
 len : p.1.length = n
 cnt : ngs p.1 + p.2.length = m
 rng : ∀ x ∈ p.2, 0 <= x /\ x < n
theorem d4c {n m : Nat} {d : Int} {p : List Int × List Int} {x : Int} (h : LvOK n m p) (hd : 0 <= d) (hx : 0 <= x /\ x < n) : LvOK n m (rlx d p x) := by
 unfold rlx
 split
 ·rename_i hn
  refine ⟨by simp [h.len], ?_, fun y hy => ?_⟩
  ·have := b6q p.1 x.toNat (d + 1) (by rw [h.len]; omega) hn (by omega)
   have := h.cnt
   simp only [List.length_append, List.length_cons, List.length_nil]; omega
  ·simp only [List.mem_append, List.mem_singleton] at hy
   rcases hy with hy | rfl
   ·exact h.rng y hy
   ·exact hx
 ·exact h
theorem c36 {n m : Nat} {d : Int} (hd : 0 <= d) : ∀ (l : List Int) (p : List Int × List Int), LvOK n m p -> (∀ x ∈ l, 0 <= x /\ x < (n : Int)) -> LvOK n m (l.foldl (rlx d) p)
 | [], p, h, _ => h
 | x :: l, p, h, hl => c36 hd l _ (d4c h hd (hl x (by simp))) fun y hy => hl y (by simp [hy])
def b7r (n : Nat) (rs : List (List Int)) : Prop := ∀ i, ∀ x ∈ rs.getD i [], 0 <= x /\ x < (n : Int)
theorem d3n {n m : Nat} {rs : List (List Int)} {d : Int} {p : List Int × List Int} {a : Int} (h : LvOK n m p) (hd : 0 <= d) (hr : b7r n rs) : LvOK n m (lvR rs d p a) := c36 hd _ _ h (hr a.toNat)
theorem c7s {n m : Nat} {rs : List (List Int)} {d : Int} (hd : 0 <= d) (hr : b7r n rs) : ∀ (l : List Int) (p : List Int × List Int), LvOK n m p -> LvOK n m (l.foldl (lvR rs d) p)
 | [], p, h => h
 | x :: l, p, h => c7s hd hr l _ (d3n h hd hr)
theorem a8o {α β : Type} (f : β -> α -> β) (b : β) (l : List α) (k : Nat) (d : α) (h : k < l.length) : (l.take (k + 1)).foldl f b = f ((l.take k).foldl f b) (l.getD k d) := by
 rw [List.take_add_one, List.getD_eq_getElem?_getD, List.getElem?_eq_getElem h, List.foldl_append]; rfl
def bfs (rs : List (List Int)) : Nat -> Int -> List Int -> List Int -> List Int
 | 0, _, _, D => D
 | m + 1, d, l, D => if (lvF rs d l D).2.length = 0 then (lvF rs d l D).1 else bfs rs m (d + 1) (lvF rs d l D).2 (lvF rs d l D).1
abbrev nR (n : Nat) (rs : List (List Int)) : Blk := .fam false 29 3 1 n (b1e b3h 0 rs) none 0
end Go.Vx.L58
set_option maxRecDepth 100000
namespace Go.Vx.L58
open Go Go.Proofs
theorem c46 (n : Int) : ∀ (l : List Ed) (seen : List (List Int)), ckL n l seen = 0 -> ∀ e ∈ l, (a6r n e.a e.pa = true /\ a6r n e.b e.pb = true) /\ e.a ≠ e.b
 | [], _, _, e, he => by cases he
 | x :: r, seen, h, e, he => by
  unfold ckL at h
  split at h
  ·cases h
  ·rename_i h1
   split at h
   ·cases h
   ·rename_i h2
    split at h
    ·cases h
    ·rcases List.mem_cons.1 he with rfl | he
     ·exact ⟨by simpa using h1, h2⟩
     ·exact c46 n r _ h e he
def c0m (n : Nat) (e : Ed) : Prop := (0 <= e.a /\ e.a < n) /\ (0 <= e.b /\ e.b < n) /\ e.a ≠ e.b
theorem a4d {n : Int} {l : List Ed} (h : ckC n l = 0) : ∃ m : Nat, n = m /\ (1 <= m /\ m <= 24) /\ l.length <= 64 /\ ∀ e ∈ l, c0m m e := by
 unfold ckC at h
 split at h
 ·cases h
 ·split at h
  ·cases h
  ·refine ⟨n.toNat, by omega, by omega, by omega, fun e he => ?_⟩
   obtain ⟨⟨h1, h2⟩, h3⟩ := c46 n l _ h e he
   simp only [a6r, decide_eq_true_eq] at h1 h2
   exact ⟨by omega, by omega, h3⟩
theorem d1e (l : List Int) (x : Int) : x ∈ srt l ↔ x ∈ l := List.mem_mergeSort
def d0s (e : Ed) (i : Nat) (y : Int) : Prop := (e.a = i /\ y = e.b) \/ (e.b = i /\ y = e.a)
theorem c85 {n : Nat} {rs : List (List Int)} (hr : rs.length = n) {e : Ed} (he : c0m n e) {i : Nat} (hi : i < n) (y : Int) : y ∈ (stN rs e).getD i [] ↔ y ∈ rs.getD i [] \/ d0s e i y := by
 obtain ⟨h1, h2, h3⟩ := he
 unfold stN d0s
 rw [a4l, a4l, a4l]
 have ha : ((e.a.toNat : Nat) : Int) = e.a := by omega
 have hb : ((e.b.toNat : Nat) : Int) = e.b := by omega
 by_cases hib : i = e.b.toNat
 ·rw [if_pos ⟨hib, by simp; omega⟩, if_neg (by omega)]
  subst hib
  simp only [List.mem_append, List.mem_singleton]
  constructor
  ·rintro (h | rfl)
   ·exact .inl h
   ·exact .inr (.inr ⟨by omega, rfl⟩)
  ·rintro (h | ⟨h, _⟩ | ⟨_, rfl⟩)
   ·exact .inl h
   ·omega
   ·exact .inr rfl
 ·rw [if_neg (fun h => hib h.1)]
  by_cases hia : i = e.a.toNat
  ·rw [if_pos ⟨hia, by omega⟩]
   subst hia
   simp only [List.mem_append, List.mem_singleton]
   constructor
   ·rintro (h | rfl)
    ·exact .inl h
    ·exact .inr (.inl ⟨by omega, rfl⟩)
   ·rintro (h | ⟨_, rfl⟩ | ⟨h, _⟩)
    ·exact .inl h
    ·exact .inr rfl
    ·omega
  ·rw [if_neg (fun h => hia h.1)]
   constructor
   ·exact .inl
   ·rintro (h | ⟨h, _⟩ | ⟨h, _⟩)
    ·exact h
    ·omega
    ·omega
theorem d08 {n : Nat} {l : List Ed} (hl : ∀ e ∈ l, c0m n e) {i : Nat} (hi : i < n) (y : Int) : y ∈ (nrU n l).getD i [] ↔ ∃ e ∈ l, d0s e i y := by
 have gen : ∀ (l : List Ed) (rs : List (List Int)), rs.length = n -> (∀ e ∈ l, c0m n e) -> (y ∈ (l.foldl stN rs).getD i [] ↔ y ∈ rs.getD i [] \/ ∃ e ∈ l, d0s e i y) := by
  intro l
  induction l with
  | nil => intro rs _ _; simp
  | cons e r ih =>
   intro rs hr he
   rw [List.foldl_cons, ih _ (by rw [c3t, hr]) fun x hx => he x (by simp [hx]), c85 hr (he e (by simp)) hi]
   constructor
   ·rintro ((h | h) | ⟨x, hx, h⟩)
    ·exact .inl h
    ·exact .inr ⟨e, by simp, h⟩
    ·exact .inr ⟨x, by simp [hx], h⟩
   ·rintro (h | ⟨x, hx, h⟩)
    ·exact .inl (.inl h)
    ·rcases List.mem_cons.1 hx with rfl | hx
     ·exact .inl (.inr h)
     ·exact .inr ⟨x, hx, h⟩
 unfold nrU
 rw [gen l _ (by simp) hl]
 have : (List.replicate n ([] : List Int)).getD i [] = [] := by
  rw [List.getD_eq_getElem?_getD, List.getElem?_replicate]
  split <;> rfl
 rw [this]
 simp
theorem c9u (n : Nat) (l : List Ed) : (nrF n l).length = n := by rw [nrF, List.length_map, b6k]
theorem c9j (n : Nat) (l : List Ed) (i : Nat) : (nrF n l).getD i [] = srt ((nrU n l).getD i []) := by
 unfold nrF
 by_cases h : i < n
 ·have := b6k n l
  rw [List.getD_eq_getElem?_getD, List.getD_eq_getElem?_getD, List.getElem?_map, List.getElem?_eq_getElem (by omega)]; rfl
 ·have := b6k n l
  rw [List.getD_eq_getElem?_getD, List.getD_eq_getElem?_getD, List.getElem?_map, List.getElem?_eq_none (by omega)]
  simp [srt]
theorem c4c {n : Nat} {l : List Ed} (hl : ∀ e ∈ l, c0m n e) {i : Nat} (hi : i < n) (y : Int) : y ∈ (nrF n l).getD i [] ↔ ∃ e ∈ l, d0s e i y := by
 rw [c9j, d1e, d08 hl hi]
theorem d3j {n : Nat} {l : List Ed} (hl : ∀ e ∈ l, c0m n e) : b7r n (nrF n l) := fun i x hx => by
 by_cases hi : i < n
 ·obtain ⟨e, he, h⟩ := (c4c hl hi x).1 hx
  obtain ⟨h1, h2, _⟩ := hl e he
  rcases h with ⟨_, rfl⟩ | ⟨_, rfl⟩ <;> omega
 ·have := c9u n l
  rw [List.getD_eq_getElem?_getD, List.getElem?_eq_none (by omega)] at hx
  cases hx
def dsF (n : Nat) (l : List Ed) (a : Nat) : List Int := bfs (nrF n l) 24 0 [(a : Int)] ((List.replicate n (-1)).set a 0)
def dsA (n : Int) (l : List Ed) (a : Int) : List Int := if hasB n l a = true then dsF n.toNat l a.toNat else []
theorem c8t (n : Nat) : ngs (List.replicate n (-1)) = n := by
 induction n with
 | zero => rfl
 | succ n ih =>
  unfold ngs at *
  rw [List.replicate_succ, List.countP_cons, ih]; rfl
end Go.Vx.L58
set_option maxRecDepth 100000
namespace Go.Vx.L58
open Go Go.Proofs
def Adj (l : List Ed) (i : Nat) (y : Int) : Prop := ∃ e ∈ l, d0s e i y
theorem Adj.symm {l : List Ed} {i y : Nat} (h : Adj l i (y : Int)) : Adj l y (i : Int) := by
 obtain ⟨e, he, h⟩ := h
 refine ⟨e, he, ?_⟩
 rcases h with ⟨h1, h2⟩ | ⟨h1, h2⟩
 ·exact .inr ⟨h2.symm, h1.symm⟩
 ·exact .inl ⟨h2.symm, h1.symm⟩
theorem Adj.lt {n : Nat} {l : List Ed} (hl : ∀ e ∈ l, c0m n e) {i : Nat} {y : Int} (h : Adj l i y) : i < n /\ (0 <= y /\ y < n) /\ y ≠ i := by
 obtain ⟨e, he, h⟩ := h
 obtain ⟨h1, h2, h3⟩ := hl e he
 rcases h with ⟨h4, rfl⟩ | ⟨h4, rfl⟩ <;> refine ⟨by omega, by omega, by omega⟩
structure IsD (n : Nat) (l : List Ed) (a : Nat) (D : List Int) : Prop where
 len : D.length = n
 low : ∀ i < n, -1 <= D.getD i 0
 zero : D.getD a 0 = 0
 edge : ∀ i < n, ∀ y < n, Adj l i ((y : Nat) : Int) -> 0 <= D.getD i 0 -> 0 <= D.getD y 0 /\ D.getD y 0 <= D.getD i 0 + 1
 back : ∀ i < n, 0 <= D.getD i 0 -> i = a \/ ∃ y < n, Adj l i ((y : Nat) : Int) /\ D.getD y 0 + 1 = D.getD i 0 /\ 0 <= D.getD y 0
theorem c54 {n : Nat} {D E : List Int} (h1 : D.length = n) (h2 : E.length = n) (h : ∀ i < n, D.getD i 0 = E.getD i 0) : D = E := by
 apply List.ext_getElem (by rw [h1, h2])
 intro i hi hj
 have := h i (by omega)
 rw [List.getD_eq_getElem?_getD, List.getElem?_eq_getElem hi, List.getD_eq_getElem?_getD, List.getElem?_eq_getElem hj] at this
 simpa using this
theorem IsD.tri {n : Nat} {l : List Ed} {b y : Nat} {E F : List Int} (h : IsD n l b E) (g : IsD n l y F) (hb : b < n) (hy : y < n) (hby : Adj l b (y : Int)) : ∀ (k : Nat) (i : Nat), i < n -> F.getD i 0 = k -> 0 <= E.getD i 0 /\ E.getD i 0 <= k + 1
 | k, i, hi, hk => by
  rcases g.back i hi (by omega) with rfl | ⟨z, hz, ha, h1, h2⟩
  ·have := h.edge b hb i hy hby (by rw [h.zero]; exact Int.le_refl _)
   have := h.zero
   omega
  ·match k with
   | 0 => omega
   | k + 1 =>
    have ih := IsD.tri h g hb hy hby k z hz (by omega)
    have := h.edge z hz i hi ha.symm ih.1
    omega
theorem a9k {n : Nat} {l : List Ed} {D : Nat -> List Int} (h : ∀ a < n, IsD n l a (D a)) : ∀ (k a b : Nat), a < n -> b < n -> (D a).getD b 0 = k -> 0 <= (D b).getD a 0 /\ (D b).getD a 0 <= k
 | k, a, b, ha, hb, hk => by
  rcases (h a ha).back b hb (by omega) with rfl | ⟨y, hy, hA, h1, h2⟩
  ·rw [(h b hb).zero]; omega
  ·match k with
   | 0 => omega
   | k + 1 =>
    have ih := a9k h k a y ha hy (by omega)
    obtain ⟨k', hk'⟩ := Int.eq_ofNat_of_zero_le ih.1
    have := (h b hb).tri (h y hy) hb hy hA k' a ha hk'
    omega
theorem c7p {n : Nat} {l : List Ed} {D : Nat -> List Int} (h : ∀ a < n, IsD n l a (D a)) (a b : Nat) (ha : a < n) (hb : b < n) : (D a).getD b 0 = (D b).getD a 0 := by
 have h1 := (h a ha).low b hb
 have h2 := (h b hb).low a ha
 by_cases hD : 0 <= (D a).getD b 0
 ·obtain ⟨k, hk⟩ := Int.eq_ofNat_of_zero_le hD
  have a1 := a9k h k a b ha hb hk
  obtain ⟨k', hk'⟩ := Int.eq_ofNat_of_zero_le a1.1
  have a2 := a9k h k' b a hb ha hk'
  omega
 ·by_cases hE : 0 <= (D b).getD a 0
  ·obtain ⟨k', hk'⟩ := Int.eq_ofNat_of_zero_le hE
   have a2 := a9k h k' b a hb ha hk'
   omega
  ·omega
theorem b4o {n : Nat} {d : Int} (hd : 0 <= d) : ∀ (xs : List Int) (p : List Int × List Int), p.1.length = n -> (∀ x ∈ xs, 0 <= x /\ x < (n : Int)) ->
  (∀ i < n, (xs.foldl (rlx d) p).1.getD i 0 = if p.1.getD i 0 < 0 /\ (i : Int) ∈ xs then d + 1 else p.1.getD i 0) /\ ∀ x, x ∈ (xs.foldl (rlx d) p).2 ↔ x ∈ p.2 \/ (x ∈ xs /\ p.1.getD x.toNat 0 < 0)
 | [], p, _, _ => ⟨fun i _ => by simp, fun x => by simp⟩
 | x :: xs, p, hp, hx => by
  obtain ⟨x0, x1⟩ := hx x (by simp)
  have hp' : (rlx d p x).1.length = n := by unfold rlx; split <;> simp [hp]
  have ih := b4o hd xs (rlx d p x) hp' fun y hy => hx y (by simp [hy])
  rw [List.foldl_cons]
  by_cases hn : p.1.getD x.toNat 0 < 0
  ·have e : rlx d p x = (p.1.set x.toNat (d + 1), p.2 ++ [x]) := if_pos hn
   rw [e] at ih ⊢
   refine ⟨fun i hi => ?_, fun z => ?_⟩
   ·rw [ih.1 i hi]
    by_cases hix : i = x.toNat
    ·subst hix
     have hm : ((x.toNat : Nat) : Int) ∈ x :: xs := by rw [show ((x.toNat : Nat) : Int) = x by omega]; simp
     have hs : (p.1.set x.toNat (d + 1)).getD x.toNat 0 = d + 1 := by rw [a4l, if_pos ⟨rfl, by omega⟩]
     show (if (p.1.set x.toNat (d + 1)).getD x.toNat 0 < 0 /\ _ then _ else (p.1.set x.toNat (d + 1)).getD x.toNat 0) = _
     rw [hs, if_neg (by omega), if_pos ⟨hn, hm⟩]
    ·have hs : (p.1.set x.toNat (d + 1)).getD i 0 = p.1.getD i 0 := by rw [a4l, if_neg (fun h => hix h.1)]
     show (if (p.1.set x.toNat (d + 1)).getD i 0 < 0 /\ _ then _ else (p.1.set x.toNat (d + 1)).getD i 0) = _
     rw [hs]
     have hm : ((i : Nat) : Int) ∈ x :: xs ↔ ((i : Nat) : Int) ∈ xs := by
      simp only [List.mem_cons, or_iff_right_iff_imp]; intro h; omega
     simp only [hm]
   ·rw [ih.2 z]
    simp only [a4l, List.mem_append, List.mem_cons, List.not_mem_nil, or_false]
    by_cases hzx : z = x
    ·subst hzx; exact ⟨fun _ => .inr ⟨.inl rfl, hn⟩, fun _ => .inl (.inr rfl)⟩
    ·by_cases hz : z ∈ xs
     ·have := hx z (by simp [hz])
      rw [if_neg (fun h => hzx (by omega))]
      simp [hzx, hz]
     ·simp [hzx, hz]
  ·have e : rlx d p x = p := if_neg hn
   rw [e] at ih ⊢
   refine ⟨fun i hi => ?_, fun z => ?_⟩
   ·rw [ih.1 i hi]
    by_cases hix : i = x.toNat
    ·subst hix
     rw [if_neg (fun h => hn h.1), if_neg (fun h => hn h.1)]
    ·have hm : ((i : Nat) : Int) ∈ x :: xs ↔ ((i : Nat) : Int) ∈ xs := by
      simp only [List.mem_cons, or_iff_right_iff_imp]; intro h; omega
     simp only [hm]
   ·rw [ih.2 z]
    simp only [List.mem_cons]
    by_cases hzx : z = x
    ·subst hzx; exact ⟨fun h => h.elim .inl fun h => absurd h.2 hn, fun h => h.elim .inl fun h => absurd h.2 hn⟩
    ·simp [hzx]
theorem c6t (rs : List (List Int)) (d : Int) (l D : List Int) : lvF rs d l D = (l.flatMap fun a => rs.getD a.toNat []).foldl (rlx d) (D, []) := by
 unfold lvF
 generalize (D, ([] : List Int)) = p
 induction l generalizing p with
 | nil => rfl
 | cons a l ih => rw [List.foldl_cons, ih, List.flatMap_cons, List.foldl_append]; rfl
def b7d (n : Nat) (l : List Ed) (rs : List (List Int)) : Prop := ∀ i < n, ∀ y, y ∈ rs.getD i [] ↔ Adj l i y
open Classical in
theorem c62 {n : Nat} {l : List Ed} (hl : ∀ e ∈ l, c0m n e) {rs : List (List Int)} (hr : b7d n l rs) {d : Int} (hd : 0 <= d) {lev D : List Int} (hD : D.length = n) (hv : ∀ x ∈ lev, 0 <= x /\ x < (n : Int)) :
  (∀ i < n, (lvF rs d lev D).1.getD i 0 = if D.getD i 0 < 0 /\ (∃ p ∈ lev, Adj l p.toNat ((i : Nat) : Int)) then d + 1 else D.getD i 0) /\ ∀ x, x ∈ (lvF rs d lev D).2 ↔ (∃ p ∈ lev, Adj l p.toNat x) /\ D.getD x.toNat 0 < 0 := by
 rw [c6t]
 have hm : ∀ x, x ∈ (lev.flatMap fun a => rs.getD a.toNat []) ↔ ∃ p ∈ lev, Adj l p.toNat x := fun x => by
  rw [List.mem_flatMap]
  constructor
  ·rintro ⟨p, hp, h⟩
   have := hv p hp
   exact ⟨p, hp, (hr p.toNat (by omega) x).1 h⟩
  ·rintro ⟨p, hp, h⟩
   have := hv p hp
   exact ⟨p, hp, (hr p.toNat (by omega) x).2 h⟩
 have h := b4o hd (lev.flatMap fun a => rs.getD a.toNat []) (D, []) hD fun x hx => by
  obtain ⟨p, _, h⟩ := (hm x).1 hx
  exact (h.lt hl).2.1
 refine ⟨fun i hi => ?_, fun x => ?_⟩
 ·rw [h.1 i hi]; simp only [hm]
 ·rw [h.2 x, hm]; simp
structure BfI (n : Nat) (l : List Ed) (a : Nat) (d : Int) (lev D : List Int) : Prop where
 len : D.length = n
 d0 : 0 <= d
 lo : ∀ i < n, D.getD i 0 = -1 \/ (0 <= D.getD i 0 /\ D.getD i 0 <= d)
 zero : D.getD a 0 = 0
 lev1 : ∀ i < n, D.getD i 0 = d -> ((i : Nat) : Int) ∈ lev
 lev2 : ∀ x ∈ lev, (0 <= x /\ x < (n : Int)) /\ D.getD x.toNat 0 = d
 edge : ∀ i < n, 0 <= D.getD i 0 -> D.getD i 0 < d -> ∀ y < n, Adj l i ((y : Nat) : Int) -> 0 <= D.getD y 0 /\ D.getD y 0 <= D.getD i 0 + 1
 back : ∀ i < n, 0 <= D.getD i 0 -> i = a \/ ∃ y < n, Adj l i ((y : Nat) : Int) /\ D.getD y 0 + 1 = D.getD i 0 /\ 0 <= D.getD y 0
 cnt : d + 1 + ngs D <= n
theorem c8c {n : Nat} {l : List Ed} (hl : ∀ e ∈ l, c0m n e) {rs : List (List Int)} (hr : b7d n l rs) (hin : b7r n rs) {a : Nat} (ha : a < n) : ∀ (m : Nat) (d : Int) (lev D : List Int), BfI n l a d lev D -> ngs D < m -> IsD n l a (bfs rs m d lev D) /\ ∀ i < n, (bfs rs m d lev D).getD i 0 < n
 | 0, _, _, _, _, hm => absurd hm (by omega)
 | m + 1, d, lev, D, h, hm => by
  have hs := c62 hl hr h.d0 h.len fun x hx => (h.lev2 x hx).1
  have hok : LvOK n (ngs D) (lvF rs d lev D) := c7s h.d0 hin lev _ ⟨h.len, rfl, fun x hx => by cases hx⟩
  have hB : bfs rs (m + 1) d lev D = if (lvF rs d lev D).2.length = 0 then (lvF rs d lev D).1 else bfs rs m (d + 1) (lvF rs d lev D).2 (lvF rs d lev D).1 := rfl
  rw [hB]
  generalize lvF rs d lev D = q at *
  obtain ⟨hs1, hs2⟩ := hs
  have d0 := h.d0
  have hcnt := h.cnt
  by_cases h0 : q.2.length = 0
  ·rw [if_pos h0]
   have hq2 : q.2 = [] := List.length_eq_zero_iff.1 h0
   have hno : ∀ i < n, ∀ p ∈ lev, Adj l p.toNat ((i : Nat) : Int) -> 0 <= D.getD i 0 := fun i hi p hp hA => by
    by_cases hn : D.getD i 0 < 0
    ·have := (hs2 i).2 ⟨⟨p, hp, hA⟩, by simpa using hn⟩
     rw [hq2] at this; cases this
    ·omega
   have he : q.1 = D := c54 hok.len h.len fun i hi => by
    rw [hs1 i hi]
    split
    ·rename_i hh
     obtain ⟨h1, p, hp, hA⟩ := hh
     have := hno i hi p hp hA
     omega
    ·rfl
   rw [he]
   refine ⟨⟨h.len, fun i hi => ?_, h.zero, fun i hi y hy hA hi0 => ?_, h.back⟩, fun i hi => ?_⟩
   ·rcases h.lo i hi with h1 | h1 <;> omega
   ·rcases h.lo i hi with h1 | ⟨h1, h2⟩
    ·omega
    ·by_cases hlt : D.getD i 0 < d
     ·exact h.edge i hi hi0 hlt y hy hA
     ·have hm := h.lev1 i hi (by omega)
      have h3 := hno y hy i hm (by simpa using hA)
      rcases h.lo y hy with h4 | h4 <;> omega
   ·rcases h.lo i hi with h1 | h1 <;> omega
  ·rw [if_neg h0]
   have hc := hok.cnt
   refine c8c hl hr hin ha m (d + 1) q.2 q.1 ⟨hok.len, by omega, fun i hi => ?_, ?_, fun i hi hi1 => ?_, fun x hx => ?_, fun i hi hi0 hlt y hy hA => ?_, fun i hi hi0 => ?_, by omega⟩ (by omega)
   ·rw [hs1 i hi]
    split
    ·right; omega
    ·rcases h.lo i hi with h1 | h1 <;> omega
   ·rw [hs1 a ha, h.zero, if_neg (by omega)]
   ·rw [hs1 i hi] at hi1
    split at hi1
    ·rename_i hh
     exact (hs2 i).2 ⟨hh.2, by simpa using hh.1⟩
    ·rcases h.lo i hi with h1 | h1 <;> omega
   ·have hx2 := (hs2 x).1 hx
    have hr := hok.rng x hx
    refine ⟨hr, ?_⟩
    have hxe : ((x.toNat : Nat) : Int) = x := by omega
    rw [hs1 x.toNat (by omega), if_pos ⟨hx2.2, by rw [hxe]; exact hx2.1⟩]
   ·have hDi : q.1.getD i 0 = D.getD i 0 := by
     rw [hs1 i hi] at hlt ⊢
     split at hlt
     ·omega
     ·rename_i hh; rw [if_neg hh]
    rw [hDi] at hi0 hlt ⊢
    have hqy := hs1 y hy
    rcases h.lo i hi with h1 | ⟨h1, h2⟩
    ·omega
    ·by_cases hlt' : D.getD i 0 < d
     ·have := h.edge i hi hi0 hlt' y hy hA
      rw [hqy, if_neg (by omega)]
      exact this
     ·have hm := h.lev1 i hi (by omega)
      rw [hqy]
      split
      ·omega
      ·rename_i hh
       have h3 : ¬ D.getD y 0 < 0 := fun h4 => hh ⟨h4, i, hm, by simpa using hA⟩
       rcases h.lo y hy with h4 | h4 <;> omega
   ·have hqi := hs1 i hi
    split at hqi
    ·rename_i hh
     obtain ⟨h1, p, hp, hA⟩ := hh
     have hp2 := h.lev2 p hp
     right
     refine ⟨p.toNat, by omega, hA.symm, ?_⟩
     rw [hqi, hs1 p.toNat (by omega), if_neg (by omega)]
     omega
    ·rw [hqi] at hi0
     rcases h.back i hi hi0 with h1 | ⟨y, hy, hA, h1, h2⟩
     ·exact .inl h1
     ·right
      refine ⟨y, hy, hA, ?_⟩
      rw [hqi, hs1 y hy, if_neg (by omega)]
      exact ⟨h1, h2⟩
theorem d1b {n : Nat} {l : List Ed} (hl : ∀ e ∈ l, c0m n e) : b7d n l (nrF n l) := fun _ hi y => c4c hl hi y
theorem c3b (n : Nat) (i : Nat) (hi : i < n) : (List.replicate n (-1 : Int)).getD i 0 = -1 := by
 rw [List.getD_eq_getElem?_getD, List.getElem?_replicate, if_pos hi]; rfl
theorem d2n {n : Nat} {l : List Ed} (hl : ∀ e ∈ l, c0m n e) (hn : n <= 24) {a : Nat} (ha : a < n) : IsD n l a (dsF n l a) /\ ∀ i < n, (dsF n l a).getD i 0 < n := by
 have hng := b6q (List.replicate n (-1)) a 0 (by simp; omega) (by rw [c3b n a ha]; decide) (by decide)
 rw [c8t] at hng
 have hg : ∀ i, i < n -> ((List.replicate n (-1 : Int)).set a 0).getD i 0 = if i = a then 0 else -1 := fun i hi => by
  rw [a4l, List.length_replicate]
  by_cases h : i = a
  ·rw [if_pos ⟨h, ha⟩, if_pos h]
  ·rw [if_neg (fun hh => h hh.1), if_neg h, c3b n i hi]
 refine c8c hl (d1b hl) (d3j hl) ha 24 0 _ _ ⟨by simp, Int.le_refl _, fun i hi => ?_, ?_, fun i hi h => ?_, fun x hx => ?_, fun i hi h1 h2 => ?_, fun i hi h => ?_, ?_⟩ (by omega)
 ·rw [hg i hi]; split <;> omega
 ·rw [hg a ha, if_pos rfl]
 ·rw [hg i hi] at h
  split at h
  ·rename_i e; subst e; simp
  ·omega
 ·simp only [List.mem_singleton] at hx
  subst hx
  refine ⟨by omega, ?_⟩
  rw [Int.toNat_natCast, hg a ha, if_pos rfl]
 ·omega
 ·rw [hg i hi] at h
  split at h
  ·rename_i e; exact .inl e
  ·omega
 ·simp only [Int.zero_add]; omega
end Go.Vx.L58

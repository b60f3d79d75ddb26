/- Lemmas of a small executor for the model, and contracts of functions, used for the law that this claim proves. No condition. -/
import Derived.Test.YtodbfpjjahpahaaGreatDoorDW3
import Derived.Test.YtodbfpjjahpahaaGreatDoorDG4
import Derived.Test.YtodbfpjjahpahaaGreatDoorDS42
set_option linter.unusedSimpArgs false
set_option linter.unusedVariables false
set_option maxRecDepth 100000
namespace Go.Vx.L58
open Go Go.Proofs
def srt (l : List Int) : List Int := l.mergeSort fun x y => decide (x ≤ y)
def stN (rs : List (List Int)) (e : Ed) : List (List Int) :=
 (rs.set e.a.toNat (rs.getD e.a.toNat [] ++ [e.b])).set e.b.toNat ((rs.set e.a.toNat (rs.getD e.a.toNat [] ++ [e.b])).getD e.b.toNat [] ++ [e.a])
def nrU (n : Nat) (l : List Ed) : List (List Int) := l.foldl stN (List.replicate n [])
theorem stN_len (rs : List (List Int)) (e : Ed) : (stN rs e).length = rs.length := by simp [stN]
theorem nrU_len (n : Nat) (l : List Ed) : (nrU n l).length = n := by
 unfold nrU
 have : ∀ (l : List Ed) (rs : List (List Int)), (l.foldl stN rs).length = rs.length := by
  intro l
  induction l with
  | nil => intro rs; rfl
  | cons e l ih => intro rs; rw [List.foldl_cons, ih, stN_len]
 rw [this]; simp
def nrF (n : Nat) (l : List Ed) : List (List Int) := (nrU n l).map srt
end Go.Vx.L58
set_option maxRecDepth 100000
namespace Go.Vx.L58
open Go Go.Proofs
def rlx (d : Int) (p : List Int × List Int) (x : Int) : List Int × List Int := if p.1.getD x.toNat 0 < 0 then (p.1.set x.toNat (d + 1), p.2 ++ [x]) else p
def lvR (rs : List (List Int)) (d : Int) (p : List Int × List Int) (a : Int) : List Int × List Int := (rs.getD a.toNat []).foldl (rlx d) p
def lvF (rs : List (List Int)) (d : Int) (l : List Int) (D : List Int) : List Int × List Int := l.foldl (lvR rs d) (D, [])
def ngs (D : List Int) : Nat := D.countP fun x => decide (x < 0)
theorem ngs_set : ∀ (D : List Int) (i : Nat) (v : Int), i < D.length → D.getD i 0 < 0 → 0 ≤ v → ngs (D.set i v) + 1 = ngs D
 | [], i, v, h, _, _ => by simp at h
 | x :: D, 0, v, _, h, hv => by
  have h : x < 0 := h
  have h2 : ¬ v < 0 := by omega
  simp [ngs, h, h2]
 | x :: D, i + 1, v, h, hx, hv => by
  have ih := ngs_set D i v (by simpa using h) hx hv
  unfold ngs at *
  simp only [List.set_cons_succ, List.countP_cons]
  omega
structure LvOK (n : Nat) (m : Nat) (p : List Int × List Int) : Prop where
 len : p.1.length = n
 cnt : ngs p.1 + p.2.length = m
 rng : ∀ x ∈ p.2, 0 ≤ x ∧ x < n
theorem rlx_ok {n m : Nat} {d : Int} {p : List Int × List Int} {x : Int} (h : LvOK n m p) (hd : 0 ≤ d) (hx : 0 ≤ x ∧ x < n) : LvOK n m (rlx d p x) := by
 unfold rlx
 split
 ·rename_i hn
  refine ⟨by simp [h.len], ?_, fun y hy => ?_⟩
  ·have := ngs_set p.1 x.toNat (d + 1) (by rw [h.len]; omega) hn (by omega)
   have := h.cnt
   simp only [List.length_append, List.length_cons, List.length_nil]; omega
  ·simp only [List.mem_append, List.mem_singleton] at hy
   rcases hy with hy | rfl
   ·exact h.rng y hy
   ·exact hx
 ·exact h
theorem fold_ok {n m : Nat} {d : Int} (hd : 0 ≤ d) : ∀ (l : List Int) (p : List Int × List Int), LvOK n m p → (∀ x ∈ l, 0 ≤ x ∧ x < (n : Int)) → LvOK n m (l.foldl (rlx d) p)
 | [], p, h, _ => h
 | x :: l, p, h, hl => fold_ok hd l _ (rlx_ok h hd (hl x (by simp))) fun y hy => hl y (by simp [hy])
def rowsIn (n : Nat) (rs : List (List Int)) : Prop := ∀ i, ∀ x ∈ rs.getD i [], 0 ≤ x ∧ x < (n : Int)
theorem lvR_ok {n m : Nat} {rs : List (List Int)} {d : Int} {p : List Int × List Int} {a : Int} (h : LvOK n m p) (hd : 0 ≤ d) (hr : rowsIn n rs) : LvOK n m (lvR rs d p a) := fold_ok hd _ _ h (hr a.toNat)
theorem lvs_ok {n m : Nat} {rs : List (List Int)} {d : Int} (hd : 0 ≤ d) (hr : rowsIn n rs) : ∀ (l : List Int) (p : List Int × List Int), LvOK n m p → LvOK n m (l.foldl (lvR rs d) p)
 | [], p, h => h
 | x :: l, p, h => lvs_ok hd hr l _ (lvR_ok h hd hr)
theorem foldl_take {α β : Type} (f : β → α → β) (b : β) (l : List α) (k : Nat) (d : α) (h : k < l.length) : (l.take (k + 1)).foldl f b = f ((l.take k).foldl f b) (l.getD k d) := by
 rw [List.take_add_one, List.getD_eq_getElem?_getD, List.getElem?_eq_getElem h, List.foldl_append]; rfl
def bfs (rs : List (List Int)) : Nat → Int → List Int → List Int → List Int
 | 0, _, _, D => D
 | m + 1, d, l, D => if (lvF rs d l D).2.length = 0 then (lvF rs d l D).1 else bfs rs m (d + 1) (lvF rs d l D).2 (lvF rs d l D).1
abbrev nR (n : Nat) (rs : List (List Int)) : Blk := .fam false 29 3 1 n (famF intC 0 rs) none 0
end Go.Vx.L58

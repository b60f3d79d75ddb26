/- Lemmas of a small executor for the model, and contracts of functions, used for the law that this claim proves. No condition. -/
import Derived.Test.YtodbfpjjahpahaaGreatDoorCG4
import Derived.Test.YtodbfpjjahpahaaGreatDoorCS42
import Derived.Test.YtodbfpjjahpahaaGreatDoorCW3
set_option linter.unusedSimpArgs false
set_option linter.unusedVariables false
set_option maxRecDepth 100000
namespace Go.Vx.L58
open Go Go.Proofs
def srt (l : List Int) : List Int := l.mergeSort fun x y => decide (x ≤ y)
/-- One edge more. -/
def stN (rs : List (List Int)) (e : Ed) : List (List Int) :=
 (rs.set e.a.toNat (rs.getD e.a.toNat [] ++ [e.b])).set e.b.toNat ((rs.set e.a.toNat (rs.getD e.a.toNat [] ++ [e.b])).getD e.b.toNat [] ++ [e.a])
def nrU (n : Nat) (l : List Ed) : List (List Int) := l.foldl stN (List.replicate n [])
def nrF (n : Nat) (l : List Ed) : List (List Int) := (nrU n l).map srt
end Go.Vx.L58
set_option maxRecDepth 100000
namespace Go.Vx.L58
open Go Go.Proofs
/-- One neighbor that is met at a level. -/
def rlx (d : Int) (p : List Int × List Int) (x : Int) : List Int × List Int := if p.1.getD x.toNat 0 < 0 then (p.1.set x.toNat (d + 1), p.2 ++ [x]) else p
def lvR (rs : List (List Int)) (d : Int) (p : List Int × List Int) (a : Int) : List Int × List Int := (rs.getD a.toNat []).foldl (rlx d) p
/-- A level. -/
def lvF (rs : List (List Int)) (d : Int) (l : List Int) (D : List Int) : List Int × List Int := l.foldl (lvR rs d) (D, [])
theorem foldl_take {α β : Type} (f : β → α → β) (b : β) (l : List α) (k : Nat) (d : α) (h : k < l.length) : (l.take (k + 1)).foldl f b = f ((l.take k).foldl f b) (l.getD k d) := by
 rw [List.take_add_one, List.getD_eq_getElem?_getD, List.getElem?_eq_getElem h, List.foldl_append]; rfl
/-- The distances behind all levels. -/
def bfs (rs : List (List Int)) : Nat → Int → List Int → List Int → List Int
 | 0, _, _, D => D
 | m + 1, d, l, D => if (lvF rs d l D).2.length = 0 then (lvF rs d l D).1 else bfs rs m (d + 1) (lvF rs d l D).2 (lvF rs d l D).1
abbrev nR (n : Nat) (rs : List (List Int)) : Blk := .fam false 29 3 1 n (famF intC 0 rs) none 0
end Go.Vx.L58

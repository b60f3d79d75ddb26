/- Lemmas of a small executor for the model, and contracts of functions, used for the law that this claim proves. No condition. -/
import Derived.Test.YtodbfpjjahpahaaGreatDoorEEAA
import Derived.Test.YtodbfpjjahpahaaGreatDoorEGBA
import Derived.Test.YtodbfpjjahpahaaGreatDoorEGA
set_option linter.unusedSimpArgs false
set_option linter.unusedVariables false
set_option maxRecDepth 100000
namespace Go.Vx.L58
open Go Go.Proofs
def a1v (ns : List Nd) (l : List Ed) : NetP where
 n := ns.length
 id := fun x => (ns.getD x nd0).id
 ow := fun x => owD (ns.getD x nd0)
 pe := fun x p => if (a1h ns.length l x p).2.2 = true then some ((a1h ns.length l x p).1.toNat, (a1h ns.length l x p).2.1.toNat) else none
def a2a (s : MS) : Mem := fun x p => if s.ks.contains [(x : Int), (p : Int)] = true then some ((s.g [(x : Int), (p : Int)]).age, (s.g [(x : Int), (p : Int)]).set) else none
theorem b20 (s : MS) (x : Nat) : hrX s x 8 = hrd (a2a s) x := by
 apply List.ext_getElem (by simp [hrX, hrd])
 intro i h1 h2
 have hi : i < 8 := by rw [a8f] at h1; exact h1
 simp only [hrX, hrd, a2a, List.getElem_map, List.getElem_range]
 by_cases h : s.ks.contains [(x : Int), ((i + 1 : Nat) : Int)] = true
 ·rw [if_pos ⟨hi, h⟩, if_pos h]; rfl
 ·rw [if_neg (fun e => h e.2), if_neg h]; rfl
def a15 (s : MS) (k : List Int) : Option Mm := if s.ks.contains k = true then some (s.g k) else none
theorem a6a (ks : List (List Int)) (n k : List Int) : (addKey ks n).contains k = (ks.contains k || (k == n)) := by
 unfold addKey
 cases h : ks.contains n with
 | true =>
  rw [cond_true]
  cases hk : (k == n) with
  | false => rw [Bool.or_false]
  | true => rw [eq_of_beq hk, h]; rfl
 | false =>
  rw [cond_false, Bool.eq_iff_iff]
  simp
theorem b33 (s : MS) (t : Int × Int) (d : DS) (k : List Int) : a15 (wrS s t d) k = if k = [t.1, t.2] then some ⟨t.1, t.2, 0, d⟩ else a15 s k := by
 unfold a15 wrS
 simp only [a6a]
 by_cases h : k = [t.1, t.2]
 ·have hb : (k == [t.1, t.2]) = true := by simpa using h
  rw [if_pos h, hb, Bool.or_true, if_pos rfl, cond_true]
 ·have hb : (k == [t.1, t.2]) = false := by simpa using h
  rw [if_neg h, hb, Bool.or_false, cond_false]
theorem b2k (s : MS) (W : List (List Int)) (hW : ∀ k, k ∈ W ↔ k ∈ s.ks) (k : List Int) : a15 (agS s W) k = match a15 s k with
  | some m => if m.age + 1 < 3 then some (c3g m) else none
  | none => none := by
 have hc : s.ks.contains k = W.contains k := by
  rw [Bool.eq_iff_iff, List.contains_iff_mem, List.contains_iff_mem]; exact (hW k).symm
 unfold a15
 rw [hc]
 show (if (W.filter _).contains k = true then some (c3g (s.g k)) else none) = _
 by_cases h : W.contains k = true
 ·rw [if_pos h]
  have hm : k ∈ W := List.contains_iff_mem.1 h
  by_cases ha : (s.g k).age + 1 < 3
  ·have : (W.filter fun k => decide ((s.g k).age + 1 < 3)).contains k = true := List.contains_iff_mem.2 (List.mem_filter.2 ⟨hm, decide_eq_true ha⟩)
   rw [if_pos this]; simp only [if_pos ha]
  ·have : ¬ (W.filter fun k => decide ((s.g k).age + 1 < 3)).contains k = true := fun e => by
    have := (List.mem_filter.1 (List.contains_iff_mem.1 e)).2
    simp [ha] at this
   rw [if_neg this]; simp only [if_neg ha]
 ·rw [if_neg h]
  have : ¬ (W.filter fun k => decide ((s.g k).age + 1 < 3)).contains k = true := fun e => h (List.contains_iff_mem.2 (List.mem_filter.1 (List.contains_iff_mem.1 e)).1)
  rw [if_neg this]
def sd1 (ns : List Nd) (gp : List Int -> Int × Int) (s : MS) (x : Nat) (p : Int) : Option DS :=
 if ann (a4v (owD (ns.getD x nd0)) (hrX s x 8) (p - 1).toNat) = true then
  (if (b36 (ns.getD x nd0).id (ns.getD (gp [(x : Int), p]).1.toNat nd0).id p (gp [(x : Int), p]).2 (owD (ns.getD x nd0)) (a5r (owD (ns.getD x nd0)) (hrX s x 8))).2 = true then
   some (b36 (ns.getD x nd0).id (ns.getD (gp [(x : Int), p]).1.toNat nd0).id p (gp [(x : Int), p]).2 (owD (ns.getD x nd0)) (a5r (owD (ns.getD x nd0)) (hrX s x 8))).1 else none)
 else none
theorem c8a (ns : List Nd) (gp : List Int -> Int × Int) (s : MS) (x : Nat) (nx : MS) (p : Int) : sdP ns gp s x nx p = match sd1 ns gp s x p with
  | some d => wrS nx (gp [(x : Int), p]) d
  | none => nx := by
 unfold sdP sd1
 by_cases h1 : ann (a4v (owD (ns.getD x nd0)) (hrX s x 8) (p - 1).toNat) = true
 ·rw [if_pos h1, if_pos h1]
  by_cases h2 : (b36 (ns.getD x nd0).id (ns.getD (gp [(x : Int), p]).1.toNat nd0).id p (gp [(x : Int), p]).2 (owD (ns.getD x nd0)) (a5r (owD (ns.getD x nd0)) (hrX s x 8))).2 = true
  ·rw [if_pos h2, if_pos h2]
  ·rw [if_neg h2, if_neg h2]
 ·rw [if_neg h1, if_neg h1]
structure POK (n : Nat) (rs : List (List Int)) (gp : List Int -> Int × Int) : Prop where
 back : ∀ x, x < n -> ∀ p, p ∈ rs.getD x [] -> ∃ (y : Nat) (q : Int), gp [(x : Int), p] = ((y : Int), q) /\ y < n /\ q ∈ rs.getD y [] /\ gp [(y : Int), q] = ((x : Int), p)
 nodup : ∀ x, (rs.getD x []).Nodup
def b2x (ns : List Nd) (gp : List Int -> Int × Int) (s : MS) (nx : MS) (k : List Int) (u : Nat) (v : Int) (y q : Int) : Option Mm := match sd1 ns gp s u v with
 | some d => some ⟨y, q, 0, d⟩
 | none => a15 nx k
theorem b72 {ns : List Nd} {n : Nat} {rs : List (List Int)} {gp : List Int -> Int × Int} (hP : POK n rs gp) (s : MS) {u : Nat} {v : Int} {y : Nat} {q : Int} (huv : gp [(u : Int), v] = ((y : Int), q)) (hu : u < n) (hv : v ∈ rs.getD u []) :
  ∀ (L : List Int) (z : Nat) (nx : MS), z < n -> (∀ p ∈ L, p ∈ rs.getD z []) -> L.Nodup ->
   a15 (L.foldl (sdP ns gp s z) nx) [(y : Int), q] = if z = u /\ v ∈ L then b2x ns gp s nx [(y : Int), q] u v y q else a15 nx [(y : Int), q]
 | [], z, nx, _, _, _ => by simp
 | p :: L, z, nx, hz, hL, hN => by
  have ih := b72 (ns := ns) hP s huv hu hv L z (sdP ns gp s z nx p) hz (fun p' h => hL p' (by simp [h])) (List.nodup_cons.1 hN).2
  rw [List.foldl_cons, ih, c8a]
  have hpz := hL p (by simp)
  by_cases hzp : z = u /\ v = p
  ·obtain ⟨rfl, rfl⟩ := hzp
   have hnL : v ∉ L := (List.nodup_cons.1 hN).1
   rw [if_neg (fun e => hnL e.2), if_pos ⟨rfl, by simp⟩]
   unfold b2x
   cases sd1 ns gp s z v with
   | none => rfl
   | some d =>
    simp only
    rw [huv, b33, if_pos rfl]
  ·have hne : ∀ d, a15 (wrS nx (gp [(z : Int), p]) d) [(y : Int), q] = a15 nx [(y : Int), q] := fun d => by
    rw [b33, if_neg]
    intro e
    obtain ⟨y', q', h1, h2, h3, h4⟩ := hP.back z hz p hpz
    rw [h1] at e
    simp only [List.cons.injEq, and_true] at e
    obtain ⟨e1, e2⟩ := e
    obtain ⟨y'', q'', g1, g2, g3, g4⟩ := hP.back u hu v hv
    rw [huv] at g1
    obtain ⟨f1, f2⟩ := Prod.mk.inj g1
    rw [<- f1, <- f2] at g4
    rw [<- e1, <- e2, g4] at h4
    obtain ⟨k1, k2⟩ := Prod.mk.inj h4
    exact hzp ⟨by omega, k2⟩
   have hc : a15 (match sd1 ns gp s z p with | some d => wrS nx (gp [(z : Int), p]) d | none => nx) [(y : Int), q] = a15 nx [(y : Int), q] := by
    cases sd1 ns gp s z p with
    | none => rfl
    | some d => exact hne d
   have hck : b2x ns gp s (match sd1 ns gp s z p with | some d => wrS nx (gp [(z : Int), p]) d | none => nx) [(y : Int), q] u v y q = b2x ns gp s nx [(y : Int), q] u v y q := by
    unfold b2x; rw [hc]
   rw [hc, hck]
   have : (z = u /\ v ∈ p :: L) ↔ (z = u /\ v ∈ L) := by
    constructor
    ·rintro ⟨h1, h2⟩
     rcases List.mem_cons.1 h2 with h2 | h2
     ·exact absurd ⟨h1, h2⟩ hzp
     ·exact ⟨h1, h2⟩
    ·rintro ⟨h1, h2⟩; exact ⟨h1, by simp [h2]⟩
   simp only [this]
theorem c2u {ns : List Nd} {n : Nat} {rs : List (List Int)} {gp : List Int -> Int × Int} (hP : POK n rs gp) (s nx : MS) {u : Nat} {v : Int} {y : Nat} {q : Int} (huv : gp [(u : Int), v] = ((y : Int), q)) (hu : u < n) (hv : v ∈ rs.getD u []) :
  ∀ x, x <= n -> a15 (sdA ns rs gp s nx x) [(y : Int), q] = if u < x then b2x ns gp s nx [(y : Int), q] u v y q else a15 nx [(y : Int), q]
 | 0, _ => by rw [if_neg (by omega)]; rfl
 | x + 1, hx => by
  have ih := c2u (ns := ns) hP s nx huv hu hv x (by omega)
  show a15 (sdN ns rs gp s (sdA ns rs gp s nx x) x) _ = _
  unfold sdN
  rw [b72 hP s huv hu hv _ x _ (by omega) (fun p h => h) (hP.nodup x)]
  by_cases hxu : x = u
  ·subst hxu
   rw [if_pos ⟨rfl, hv⟩, if_pos (by omega)]
   rw [if_neg (by omega)] at ih
   unfold b2x
   rw [ih]
  ·rw [if_neg (fun e => hxu e.1), ih]
   by_cases h : u < x
   ·rw [if_pos h, if_pos (by omega)]
   ·rw [if_neg h, if_neg (by omega)]
theorem b0j {ns : List Nd} {n : Nat} {rs : List (List Int)} {gp : List Int -> Int × Int} (hP : POK n rs gp) (s nx : MS) {k : List Int} (hk : ∀ (y : Nat) (q : Int), y < n -> q ∈ rs.getD y [] -> k ≠ [(y : Int), q]) :
  ∀ x, x <= n -> a15 (sdA ns rs gp s nx x) k = a15 nx k
 | 0, _ => rfl
 | x + 1, hx => by
  have ih := b0j (ns := ns) hP s nx hk x (by omega)
  have key : ∀ (L : List Int) (m : MS), (∀ p ∈ L, p ∈ rs.getD x []) -> a15 (L.foldl (sdP ns gp s x) m) k = a15 m k := by
   intro L
   induction L with
   | nil => intro m _; rfl
   | cons p L ih2 =>
    intro m hL
    rw [List.foldl_cons, ih2 _ (fun p' h => hL p' (by simp [h])), c8a]
    cases sd1 ns gp s x p with
    | none => rfl
    | some d =>
     obtain ⟨y, q, h1, h2, h3, _⟩ := hP.back x (by omega) p (hL p (by simp))
     simp only
     rw [h1, b33, if_neg (hk y q h2 h3)]
  show a15 (sdN ns rs gp s (sdA ns rs gp s nx x) x) _ = _
  unfold sdN
  rw [key _ _ (fun p h => h), ih]
end Go.Vx.L58

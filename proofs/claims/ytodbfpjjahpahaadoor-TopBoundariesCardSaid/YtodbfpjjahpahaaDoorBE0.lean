/- Lemmas of a small executor for the model, and contracts of functions, used for the law that this claim proves. No condition. -/
import Derived.Test.YtodbfpjjahpahaaDoorBT42
import Derived.Test.YtodbfpjjahpahaaDoorBW3
import Derived.Handy
set_option linter.unusedSimpArgs false
set_option linter.unusedVariables false
namespace Go.Vx.L42
structure DS where
 p1 : Int
 cl : Int
 ac : Int
 va : Int
 p2 : Int
 gm : Int
 st : Int
 se : Int
 sp : Int
 re : Int
 rp : Int
 deriving DecidableEq, Inhabited
def DS.mk6 (d : DS) : List Int := [d.p1, d.cl, d.ac, d.va, d.p2, d.gm]
def DS.tl5 (d : DS) : List Int := [d.st, d.se, d.sp, d.re, d.rp]
def DS.ks (d : DS) : List Int := d.mk6 ++ d.tl5
def lexB : List Int -> List Int -> Bool
 | a :: x, b :: y => if a < b then true else if b < a then false else lexB x y
 | _, _ => false
def a2e (a b : DS) : Bool := lexB a.ks b.ks
theorem a5o : ∀ a : List Int, lexB a a = false
 | [] => rfl
 | a :: x => by simp [lexB, a5o x]
theorem a6p : ∀ {a b c : List Int}, lexB a b = true -> lexB b c = true -> lexB a c = true
 | [], _, _, h, _ => by simp [lexB] at h
 | a :: x, [], _, h, _ => by simp [lexB] at h
 | a :: x, b :: y, [], _, h => by simp [lexB] at h
 | a :: x, b :: y, c :: z, h, g => by
  simp only [lexB] at h g ⊢
  by_cases h1 : a < b
  ·by_cases g1 : b < c
   ·rw [if_pos (by omega)]
   ·rw [if_neg g1] at g
    by_cases g2 : c < b
    ·rw [if_pos g2] at g; cases g
    ·rw [if_pos (by omega)]
  ·rw [if_neg h1] at h
   by_cases h2 : b < a
   ·rw [if_pos h2] at h; cases h
   ·rw [if_neg h2] at h
    by_cases g1 : b < c
    ·rw [if_pos (by omega)]
    ·rw [if_neg g1] at g
     by_cases g2 : c < b
     ·rw [if_pos g2] at g; cases g
     ·rw [if_neg g2] at g
      rw [if_neg (by omega), if_neg (by omega)]
      exact a6p h g
theorem a6s : ∀ {a b : List Int}, a.length = b.length -> lexB a b = false -> lexB b a = false -> a = b
 | [], [], _, _, _ => rfl
 | [], _ :: _, h, _, _ => by simp at h
 | _ :: _, [], h, _, _ => by simp at h
 | a :: x, b :: y, hl, h, g => by
  simp only [lexB] at h g
  by_cases h1 : a < b
  ·rw [if_pos h1] at h; cases h
  ·rw [if_neg h1] at h
   by_cases h2 : b < a
   ·rw [if_pos h2] at g; cases g
   ·rw [if_neg h2] at h
    rw [if_neg h2, if_neg h1] at g
    rw [show a = b by omega, a6s (by simpa using hl) h g]
theorem a9n : ∀ {a b x y : List Int}, a.length = b.length -> lexB (a ++ x) (b ++ y) = if lexB a b = true then true else if lexB b a = true then false else lexB x y
 | [], [], x, y, _ => by simp [lexB]
 | [], _ :: _, _, _, h => by simp at h
 | _ :: _, [], _, _, h => by simp at h
 | a :: u, b :: v, x, y, hl => by
  have ih := a9n (a := u) (b := v) (x := x) (y := y) (by simpa using hl)
  simp only [List.cons_append, lexB]
  by_cases h1 : a < b
  ·simp [h1]
  ·by_cases h2 : b < a
   ·simp [h1, h2]
   ·simp only [if_neg h1, if_neg h2]; exact ih
def ltM (a b : DS) : Bool := lexB a.mk6 b.mk6
theorem a4u {a b : DS} (h : ltM a b = true) : a2e a b = true := by
 unfold ltM at h
 unfold a2e DS.ks; rw [a9n (a := a.mk6) (b := b.mk6) rfl, if_pos h]
theorem a5b {a b : DS} (h : ltM b a = true) : a2e a b = false := by
 unfold ltM at h
 unfold a2e DS.ks; rw [a9n (a := a.mk6) (b := b.mk6) rfl]
 have : lexB a.mk6 b.mk6 ≠ true := fun g => by
  have := a6p g h; rw [a5o] at this; cases this
 rw [if_neg this, if_pos h]
theorem a8e {a b : DS} (h : a.mk6 = b.mk6) (hs : a.st < b.st) : a2e a b = true := by
 unfold a2e DS.ks; rw [a9n (a := a.mk6) (b := b.mk6) rfl, h, a5o, if_neg (by simp), if_neg (by simp)]
 simp [DS.tl5, lexB, hs]
theorem b79 {a b : DS} (h : a2e a b = false) : ltM b a = true \/ (a.mk6 = b.mk6 /\ b.st <= a.st) := by
 by_cases h1 : ltM b a = true
 ·exact .inl h1
 ·by_cases h2 : ltM a b = true
  ·rw [a4u h2] at h; cases h
  ·have e : a.mk6 = b.mk6 := a6s rfl (by simpa [ltM] using h2) (by simpa [ltM] using h1)
   refine .inr ⟨e, ?_⟩
   by_cases h3 : a.st < b.st
   ·rw [a8e e h3] at h; cases h
   ·omega
theorem b4v {a b c : DS} (h : a2e a b = true) (g : a2e b c = true) : a2e a c = true := a6p h g
theorem a94 (a : DS) : a2e a a = false := a5o _
abbrev a3g (ps : List (Option DS)) (i : Nat) : DS := (ps.getD i none).getD default
abbrev a55 (ps : List (Option DS)) (i : Nat) : Bool := (ps.getD i none).isSome
def bst (ps : List (Option DS)) : Nat -> Int
 | 0 => -1
 | x + 1 => if a55 ps x = true /\ (bst ps x < 0 \/ a2e (a3g ps x) (a3g ps (bst ps x).toNat) = true) then (x : Int) else bst ps x
theorem a9h (ps : List (Option DS)) : ∀ x, (bst ps x = -1 /\ ∀ i, i < x -> a55 ps i = false) \/ ((0 <= bst ps x /\ bst ps x < x) /\ a55 ps (bst ps x).toNat = true /\ ∀ i, i < x -> a55 ps i = true -> a2e (a3g ps i) (a3g ps (bst ps x).toNat) = false)
 | 0 => .inl ⟨rfl, fun i h => by omega⟩
 | x + 1 => by
  have ih := a9h ps x
  by_cases h : a55 ps x = true /\ (bst ps x < 0 \/ a2e (a3g ps x) (a3g ps (bst ps x).toNat) = true)
  ·have e : bst ps (x + 1) = x := by simp only [bst]; rw [if_pos h]
   rw [e]
   refine .inr ⟨by omega, by simpa using h.1, fun i hi hh => ?_⟩
   rw [Int.toNat_natCast]
   by_cases hix : i = x
   ·rw [hix, a94]
   ·rcases ih with ⟨e1, e2⟩ | ⟨e1, e2, e3⟩
    ·have := e2 i (by omega); rw [hh] at this; cases this
    ·rcases h.2 with h2 | h2
     ·omega
     ·have h3 := e3 i (by omega) hh
      cases hc : a2e (a3g ps i) (a3g ps x)
      ·rfl
      ·rw [b4v hc h2] at h3; cases h3
  ·have e : bst ps (x + 1) = bst ps x := by simp only [bst]; rw [if_neg h]
   rw [e]
   rcases ih with ⟨e1, e2⟩ | ⟨e1, e2, e3⟩
   ·refine .inl ⟨e1, fun i hi => ?_⟩
    by_cases hix : i = x
    ·subst hix
     cases hc : a55 ps i
     ·rfl
     ·exact absurd ⟨hc, .inl (by omega)⟩ h
    ·exact e2 i (by omega)
   ·refine .inr ⟨by omega, e2, fun i hi hh => ?_⟩
    by_cases hix : i = x
    ·subst hix
     cases hc : a2e (a3g ps i) (a3g ps (bst ps i).toNat)
     ·rfl
     ·exact absurd ⟨hh, .inr hc⟩ h
    ·exact e3 i (by omega) hh
def b92 (b own : DS) (i : Nat) (h : DS) : DS := { b with st := b.st + 1, se := own.se, sp := i + 1, rp := i + 1, re := h.re }
def a56 (ps : List (Option DS)) : Int := bst ps ps.length
def a5l (own : DS) (ps : List (Option DS)) : Bool := decide (a56 ps < 0) || a2e own (a3g ps (a56 ps).toNat)
def a7t (own : DS) (ps : List (Option DS)) (i : Nat) : Int :=
 if a5l own ps = true then 2 else if (i : Int) = a56 ps then 6 else
  if a55 ps i = false \/ a2e (b92 (a3g ps (a56 ps).toNat) own i (a3g ps i)) (a3g ps i) = true then 3 else 5
def b75 (own : DS) (ps : List (Option DS)) : DS := if a5l own ps = true then own else a3g ps (a56 ps).toNat
abbrev Mem := Nat -> Nat -> Option (Int × DS)
structure NetP where
 n : Nat
 id : Nat -> Int
 ow : Nat -> DS
 pe : Nat -> Nat -> Option (Nat × Nat)
structure NetP.OK (G : NetP) : Prop where
 pe_ok : ∀ x p y q, G.pe x p = some (y, q) -> (x < G.n /\ y < G.n) /\ (1 <= p /\ p <= 8) /\ (1 <= q /\ q <= 8) /\ x ≠ y /\ G.pe y q = some (x, p)
 gm : ∀ x, (G.ow x).gm = G.id x
 st : ∀ x, (G.ow x).st = 0
 rp : ∀ x, (G.ow x).rp = 0
 inj : ∀ x y, x < G.n -> y < G.n -> G.id x = G.id y -> x = y
def hrd (M : Mem) (x : Nat) : List (Option DS) := (List.range 8).map fun i => (M x (i + 1)).map (·.2)
def NetP.fol (G : NetP) (M : Mem) (x : Nat) : DS := b75 (G.ow x) (hrd M x)
def NetP.cod (G : NetP) (M : Mem) (x i : Nat) : Int := a7t (G.ow x) (hrd M x) i
def ann (c : Int) : Bool := decide (c = 1) || decide (c = 2) || decide (c = 3)
def NetP.snd (G : NetP) (M : Mem) (x p y q : Nat) : Option DS :=
 if ann (G.cod M x (p - 1)) = true then
  if G.fol M x = G.ow x then some { G.ow x with se := G.id x, sp := p, re := G.id y, rp := q }
  else if (G.fol M x).st + 1 < 32 then some { G.fol M x with st := (G.fol M x).st + 1, se := G.id x, sp := p, re := G.id y, rp := q } else none
 else none
def NetP.rnd (G : NetP) (M : Mem) : Mem := fun x p => match G.pe x p with
 | none => none
 | some (y, q) => match G.snd M y q x p with
  | some d => some (0, d)
  | none => match M x p with
   | none => none
   | some (a, d) => if a + 1 < 3 then some (a + 1, d) else none
def NetP.run (G : NetP) (M : Mem) : Nat -> Mem
 | 0 => M
 | t + 1 => G.rnd (G.run M t)
theorem b5m (M : Mem) (x : Nat) : (hrd M x).length = 8 := by simp [hrd]
theorem b4l (M : Mem) (x i : Nat) (h : i < 8) : (hrd M x).getD i none = (M x (i + 1)).map (·.2) := by
 simp [hrd, List.getD_eq_getElem?_getD, h]
theorem c1d {M : Mem} {x i : Nat} (hi : i < 8) (h : a55 (hrd M x) i = true) : ∃ a, M x (i + 1) = some (a, a3g (hrd M x) i) := by
 unfold a55 at h; unfold a3g
 rw [b4l M x i hi] at h ⊢
 cases hM : M x (i + 1) with
 | none => rw [hM] at h; cases h
 | some v => exact ⟨v.1, rfl⟩
theorem c1w {M : Mem} {x i : Nat} {a : Int} {d : DS} (hi : i < 8) (h : M x (i + 1) = some (a, d)) : a55 (hrd M x) i = true /\ a3g (hrd M x) i = d := by
 unfold a55 a3g
 rw [b4l M x i hi, h]
 exact ⟨rfl, rfl⟩
theorem b3p (M : Mem) (x : Nat) : (a56 (hrd M x) = -1 /\ ∀ p a d, 1 <= p -> p <= 8 -> M x p ≠ some (a, d)) \/ (∃ b : Nat, a56 (hrd M x) = b /\ b < 8 /\ (∃ a, M x (b + 1) = some (a, a3g (hrd M x) b)) /\ ∀ p a d, 1 <= p -> p <= 8 -> M x p = some (a, d) -> a2e d (a3g (hrd M x) b) = false) := by
 have h := a9h (hrd M x) (hrd M x).length
 rw [show bst (hrd M x) (hrd M x).length = a56 (hrd M x) from rfl, b5m] at h
 rcases h with ⟨e1, e2⟩ | ⟨e1, e2, e3⟩
 ·refine .inl ⟨e1, fun p a d h1 h2 hM => ?_⟩
  have := e2 (p - 1) (by omega)
  rw [(c1w (i := p - 1) (by omega) (by rw [show p - 1 + 1 = p by omega]; exact hM)).1] at this
  cases this
 ·obtain ⟨b, hb⟩ := Int.eq_ofNat_of_zero_le e1.1
  rw [hb, Int.toNat_natCast] at e2 e3
  rw [hb] at e1
  refine .inr ⟨b, hb, by omega, c1d (by omega) e2, fun p a d h1 h2 hM => ?_⟩
  obtain ⟨g1, g2⟩ := c1w (i := p - 1) (by omega) (show M x (p - 1 + 1) = some (a, d) by rw [show p - 1 + 1 = p by omega]; exact hM)
  have := e3 (p - 1) (by omega) g1
  rw [g2] at this; exact this
theorem a7m (G : NetP) (M : Mem) (x : Nat) : (a5l (G.ow x) (hrd M x) = true /\ G.fol M x = G.ow x) \/ (a5l (G.ow x) (hrd M x) = false /\ ∃ b : Nat, a56 (hrd M x) = b /\ b < 8 /\ G.fol M x = a3g (hrd M x) b /\ (∃ a, M x (b + 1) = some (a, G.fol M x)) /\ a2e (G.ow x) (G.fol M x) = false /\ ∀ p a d, 1 <= p -> p <= 8 -> M x p = some (a, d) -> a2e d (G.fol M x) = false) := by
 by_cases h : a5l (G.ow x) (hrd M x) = true
 ·exact .inl ⟨h, by unfold NetP.fol b75; rw [if_pos h]⟩
 ·have h' : a5l (G.ow x) (hrd M x) = false := by simpa using h
  rcases b3p M x with ⟨e1, _⟩ | ⟨b, e1, e2, e3, e4⟩
  ·exact absurd (by unfold a5l; rw [e1]; rfl) h
  ·have ef : G.fol M x = a3g (hrd M x) b := by
    unfold NetP.fol b75; rw [if_neg h, e1]; rfl
   refine .inr ⟨h', b, e1, e2, ef, by rw [ef]; exact e3, ?_, by rw [ef]; exact e4⟩
   rw [ef]
   unfold a5l at h'
   rw [e1, Int.toNat_natCast, Bool.or_eq_false_iff] at h'
   exact h'.2
theorem b9c {G : NetP} {M : Mem} {x p : Nat} {a : Int} {d : DS} (h : G.rnd M x p = some (a, d)) : ∃ y q, G.pe x p = some (y, q) /\ ((a = 0 /\ G.snd M y q x p = some d) \/ ∃ a', M x p = some (a', d) /\ a = a' + 1 /\ a < 3) := by
 unfold NetP.rnd at h
 cases hp : G.pe x p with
 | none => rw [hp] at h; cases h
 | some yq =>
  obtain ⟨y, q⟩ := yq
  rw [hp] at h
  refine ⟨y, q, rfl, ?_⟩
  dsimp only at h
  cases hs : G.snd M y q x p with
  | some d' =>
   rw [hs] at h
   obtain ⟨rfl, rfl⟩ := Prod.mk.inj (Option.some.inj h)
   exact .inl ⟨rfl, rfl⟩
  | none =>
   rw [hs] at h
   dsimp only at h
   cases hM : M x p with
   | none => rw [hM] at h; cases h
   | some v =>
    rw [hM] at h
    obtain ⟨a', d'⟩ := v
    dsimp only at h
    by_cases hlt : a' + 1 < 3
    ·rw [if_pos hlt] at h
     obtain ⟨rfl, rfl⟩ := Prod.mk.inj (Option.some.inj h)
     exact .inr ⟨a', rfl, rfl, hlt⟩
    ·rw [if_neg hlt] at h; cases h
theorem c0w {G : NetP} {M : Mem} {x p y q : Nat} {d : DS} (h : G.snd M x p y q = some d) : (G.fol M x = G.ow x /\ d = { G.ow x with se := G.id x, sp := (p : Int), re := G.id y, rp := (q : Int) }) \/ (G.fol M x ≠ G.ow x /\ (G.fol M x).st + 1 < 32 /\ d = { G.fol M x with st := (G.fol M x).st + 1, se := G.id x, sp := (p : Int), re := G.id y, rp := (q : Int) }) := by
 unfold NetP.snd at h
 by_cases h1 : ann (G.cod M x (p - 1)) = true
 ·rw [if_pos h1] at h
  by_cases h2 : G.fol M x = G.ow x
  ·rw [if_pos h2] at h; exact .inl ⟨h2, (Option.some.inj h).symm⟩
  ·rw [if_neg h2] at h
   by_cases h3 : (G.fol M x).st + 1 < 32
   ·rw [if_pos h3] at h; exact .inr ⟨h2, h3, (Option.some.inj h).symm⟩
   ·rw [if_neg h3] at h; cases h
 ·rw [if_neg h1] at h; cases h
structure NetP.Dst (G : NetP) (D : Nat -> Nat -> Int) : Prop where
 low : ∀ i y, i < G.n -> y < G.n -> -1 <= D i y
 zero : ∀ i, i < G.n -> D i i = 0
 zeq : ∀ i y, i < G.n -> y < G.n -> D i y = 0 -> y = i
 edge : ∀ i x p y q, i < G.n -> G.pe x p = some (y, q) -> 0 <= D i x -> 0 <= D i y /\ D i y <= D i x + 1
 back : ∀ i x, i < G.n -> x < G.n -> 0 < D i x -> ∃ p y q, G.pe x p = some (y, q) /\ D i y + 1 = D i x
 comp : ∀ i j x, i < G.n -> j < G.n -> x < G.n -> 0 <= D i x -> 0 <= D j x -> 0 <= D i j
def NetP.Good (G : NetP) (D : Nat -> Nat -> Int) (x p : Nat) (d : DS) : Prop := ∃ i y q, i < G.n /\ G.pe x p = some (y, q) /\ d.mk6 = (G.ow i).mk6 /\ 0 <= D i y /\ D i y <= d.st
theorem b30 {a b : DS} (h : a.mk6 = b.mk6) : a.gm = b.gm := by
 unfold DS.mk6 at h
 simp only [List.cons.injEq] at h
 exact h.2.2.2.2.2.1
def NetP.AllG (G : NetP) (D : Nat -> Nat -> Int) (M : Mem) : Prop := ∀ x p a d, M x p = some (a, d) -> G.Good D x p d
def NetP.Best (G : NetP) (D : Nat -> Nat -> Int) (m : Nat) : Prop := m < G.n /\ ∀ i, i < G.n -> 0 <= D m i -> i ≠ m -> ltM (G.ow m) (G.ow i) = true
def NetP.Set1 (G : NetP) (M : Mem) (m x k : Nat) : Prop := (k = 0 /\ a5l (G.ow x) (hrd M x) = true /\ G.fol M x = G.ow x) \/ (0 < k /\ a5l (G.ow x) (hrd M x) = false /\ (G.fol M x).mk6 = (G.ow m).mk6 /\ (G.fol M x).st + 1 = k)
theorem a5t {G : NetP} (hG : G.OK) {D : Nat -> Nat -> Int} (hD : G.Dst D) {m x : Nat} (hm : G.Best D m) (hx : 0 <= D m x) {p : Nat} {d : DS} (hg : G.Good D x p d) :
  ltM (G.ow m) d = true \/ (d.mk6 = (G.ow m).mk6 /\ ∃ y q, G.pe x p = some (y, q) /\ 0 <= D m y /\ D m y <= d.st) := by
 obtain ⟨i, y, q, hi, hp, hm6, hd0, hd1⟩ := hg
 obtain ⟨⟨hxn, hyn⟩, _, _, _, hq⟩ := hG.pe_ok _ _ _ _ hp
 have hmy := hD.edge m x p y q hm.1 hp hx
 have hmi := hD.comp m i y hm.1 hi hyn hmy.1 hd0
 by_cases him : i = m
 ·subst him
  exact .inr ⟨hm6, y, q, hp, hd0, hd1⟩
 ·left
  have := hm.2 i hi hmi him
  unfold ltM at this ⊢
  rw [hm6]; exact this
theorem b9f {G : NetP} (hG : G.OK) {D : Nat -> Nat -> Int} (hD : G.Dst D) {m : Nat} (hm : G.Best D m) {M : Mem} (hM : G.AllG D M) : G.Set1 M m m 0 := by
 have hs : a5l (G.ow m) (hrd M m) = true := by
  by_cases h : a5l (G.ow m) (hrd M m) = true
  ·exact h
  ·rcases a7m G M m with ⟨e, _⟩ | ⟨_, b, e1, e2, e3, ⟨a, e4⟩, e5, e6⟩
   ·exact e
   ·exfalso
    have hg := hM _ _ _ _ e4
    rcases a5t hG hD hm (by rw [hD.zero m hm.1]; omega) hg with h1 | ⟨h1, y, q, hp, h2, h3⟩
    ·rw [a4u h1] at e5; cases e5
    ·have hym : D m y ≠ 0 := fun h0 => by
      obtain ⟨⟨_, hyn⟩, _, _, hne, _⟩ := hG.pe_ok _ _ _ _ hp
      exact hne (hD.zeq m y hm.1 hyn h0).symm
     rw [a8e h1.symm (by rw [hG.st]; omega)] at e5
     cases e5
 exact .inl ⟨rfl, hs, by unfold NetP.fol b75; rw [if_pos hs]⟩
theorem c0q {G : NetP} (hG : G.OK) {D : Nat -> Nat -> Int} (hD : G.Dst D) {m : Nat} (hm : G.Best D m) {M : Mem} (hM : G.AllG D M) {x k : Nat} (hxn : x < G.n) (hx : D m x = k + 1)
  {p : Nat} {a : Int} {d : DS} (hp : 1 <= p /\ p <= 8) (hd : M x p = some (a, d)) (h6 : d.mk6 = (G.ow m).mk6) (hst : d.st = k) : G.Set1 M m x (k + 1) := by
 have hxm : x ≠ m := fun e => by rw [e, hD.zero m hm.1] at hx; omega
 have hltx : ltM (G.ow m) (G.ow x) = true := hm.2 x hxn (by omega) hxm
 rcases b3p M x with ⟨_, e2⟩ | ⟨b, e1, e2, ⟨ab, e3⟩, e4⟩
 ·exact absurd hd (e2 p a d hp.1 hp.2)
 ·have hf := e4 p a d hp.1 hp.2 hd
  have hgb := hM _ _ _ _ e3
  generalize hB : a3g (hrd M x) b = B at *
  have hB6 : B.mk6 = (G.ow m).mk6 /\ B.st = k := by
   rcases a5t hG hD hm (by omega) hgb with h1 | ⟨h1, y, q, hpp, h2, h3⟩
   ·have : ltM d B = true := by unfold ltM at h1 ⊢; rw [h6]; exact h1
    rw [a4u this] at hf; cases hf
   ·obtain ⟨_, _, _, _, hq⟩ := hG.pe_ok _ _ _ _ hpp
    have hed := hD.edge m y q x (b + 1) hm.1 hq h2
    rcases b79 hf with h4 | ⟨_, h5⟩
    ·unfold ltM at h4; rw [h1, h6, a5o] at h4; cases h4
    ·exact ⟨h1, by omega⟩
  have hs : a5l (G.ow x) (hrd M x) = false := by
   unfold a5l
   rw [e1, Int.toNat_natCast, hB]
   have : ltM B (G.ow x) = true := by unfold ltM at hltx ⊢; rw [hB6.1]; exact hltx
   rw [a5b this, Bool.or_false]
   exact decide_eq_false (by omega)
  have hfol : G.fol M x = B := by
   unfold NetP.fol b75; rw [if_neg (by rw [hs]; simp), e1, Int.toNat_natCast, hB]
  exact .inr ⟨by omega, hs, by rw [hfol]; exact hB6.1, by rw [hfol, hB6.2]; rfl⟩
theorem c6j {c : Int} (h : c = 2) : ann c = true := by subst h; rfl
theorem b8f {c : Int} (h : c = 3) : ann c = true := by subst h; rfl
theorem b7a {G : NetP} (hG : G.OK) {D : Nat -> Nat -> Int} (hD : G.Dst D) {m : Nat} (hm : G.Best D m) {M : Mem} (hM : G.AllG D M) {x k y p q : Nat} (hk : k < 31) (hx : D m x = k + 1) (hy : D m y = k) (hpe : G.pe x p = some (y, q)) (hS : G.Set1 M m y k) :
  ∃ d : DS, G.rnd M x p = some (0, d) /\ d.mk6 = (G.ow m).mk6 /\ d.st = k := by
 obtain ⟨⟨hxn, hyn⟩, hpb, hqb, hne, hq⟩ := hG.pe_ok _ _ _ _ hpe
 have key : ∃ d : DS, G.snd M y q x p = some d /\ d.mk6 = (G.ow m).mk6 /\ d.st = k := by
  rcases hS with ⟨rfl, hs, hf⟩ | ⟨hk0, hs, hf6, hfs⟩
  ·have hc : ann (G.cod M y (q - 1)) = true := c6j (by unfold NetP.cod a7t; rw [if_pos hs])
   have hym : y = m := hD.zeq m y hm.1 hyn (by simpa using hy)
   refine ⟨{ G.ow y with se := G.id y, sp := (q : Int), re := G.id x, rp := (p : Int) }, by unfold NetP.snd; rw [if_pos hc, if_pos hf], ?_, ?_⟩
   ·rw [hym]; rfl
   ·show (G.ow y).st = ((0 : Nat) : Int)
    rw [hG.st]; rfl
  ·rcases a7m G M y with ⟨e, _⟩ | ⟨_, b, e1, e2, e3, ⟨ab, e4⟩, e5, e6⟩
   ·rw [hs] at e; cases e
   ·have hbq : b + 1 ≠ q := fun hbq => by
     rw [hbq] at e4
     rcases a5t hG hD hm (by omega) (hM _ _ _ _ e4) with h1 | ⟨h1, z, r, hz, h2, h3⟩
     ·unfold ltM at h1; rw [hf6, a5o] at h1; cases h1
     ·rw [hq] at hz
      obtain ⟨rfl, rfl⟩ := Prod.mk.inj (Option.some.inj hz)
      omega
    have hc : ann (G.cod M y (q - 1)) = true := by
     refine b8f ?_
     unfold NetP.cod a7t
     rw [if_neg (by rw [hs]; simp), if_neg (by rw [e1]; omega), e1, Int.toNat_natCast, <- e3, if_pos]
     cases hh : a55 (hrd M y) (q - 1) with
     | false => exact .inl rfl
     | true =>
      right
      obtain ⟨a', hm'⟩ := c1d (by omega) hh
      rw [show q - 1 + 1 = q by omega] at hm'
      generalize a3g (hrd M y) (q - 1) = d' at *
      rcases a5t hG hD hm (by omega) (hM _ _ _ _ hm') with h1 | ⟨h1, z, r, hz, h2, h3⟩
      ·apply a4u
       have e : (b92 (G.fol M y) (G.ow y) (q - 1) d').mk6 = (G.ow m).mk6 := hf6
       unfold ltM at h1 ⊢
       rw [e]; exact h1
      ·rw [hq] at hz
       obtain ⟨rfl, rfl⟩ := Prod.mk.inj (Option.some.inj hz)
       apply a8e (a := b92 (G.fol M y) (G.ow y) (q - 1) d') (hf6.trans h1.symm)
       show (G.fol M y).st + 1 < d'.st
       omega
    have hno : G.fol M y ≠ G.ow y := fun e => by
     rw [e] at hf6
     have h1 := b30 hf6
     rw [hG.gm, hG.gm] at h1
     have := hG.inj y m hyn hm.1 h1
     rw [this, hD.zero m hm.1] at hy
     omega
    refine ⟨{ G.fol M y with st := (G.fol M y).st + 1, se := G.id y, sp := (q : Int), re := G.id x, rp := (p : Int) }, by unfold NetP.snd; rw [if_pos hc, if_neg hno, if_pos (by omega)], hf6, hfs⟩
 obtain ⟨d, h1, h2, h3⟩ := key
 refine ⟨d, ?_, h2, h3⟩
 unfold NetP.rnd
 rw [hpe]
 dsimp only
 rw [h1]
end Go.Vx.L42
set_option maxRecDepth 100000
namespace Go.Vx.L42
open Go Go.Proofs
theorem c04 {n : Int} (h1 : -9223372036854775808 <= n) (h2 : n <= 9223372036854775807) : IntKind.i64.wrap n = n := c61 h1 h2
structure Ed where
 a : Int
 pa : Int
 b : Int
 pb : Int
 deriving DecidableEq
def ed0 : Ed := ⟨0, 0, 0, 0⟩
instance : Inhabited Ed := ⟨ed0⟩
def edC (c : Ed) : List AV := [.val (.int .i64 c.a), .val (.int .i64 c.pa), .val (.int .i64 c.b), .val (.int .i64 c.pb)]
abbrev edF (l : List Ed) : Nat -> Nat -> AV := a2x edC ed0 l
theorem c3b : Flat edC := fun x v h => by simp [edC] at h; rcases h with rfl | rfl | rfl | rfl <;> trivial
instance : FlatC edC := ⟨c3b⟩
abbrev gA (n : Int) (l : List Ed) (cap : Option Nat) : AV := .agg [.val (.int .i64 n), .sl 0 4 0 l.length cap]
abbrev gB (l : List Ed) : Blk := .arr false 66 4 l.length (edF l)
def b1c (n a p : Int) : Bool := decide (0 <= a /\ a < n /\ 1 <= p /\ p <= 8)
theorem c2k (n a p : Int) (l : List Ed) (cap : Option Nat) : Runs Tryd.prog 53 [gA n l cap, .val (.int .i64 a), .val (.int .i64 p)] [gB l] (Det (.sb (b1c n a p)) [gB l]) := by
 refine Runs.mk a1a Tryd.call53 Tryd.func53 rfl Tryd.ntmps53 Tryd.results53 rfl ?_
 (repeat' (first
  | refine SP ?_
  | (apply a0g <;> intro hb <;> (try simp only [nS, nT, eq_self, reduceCtorEq] at hb))
  | (apply a04 [some 0]; (focus (iterate 2 (all_goals (repeat' (first | exact trivial | refine SP ?_ | refine And.intro ?_ ?_ | exact a0f rfl rfl rfl | refine a1j ?_ | refine a1b ?_ ))))); any_goals (apply a0h; rfl))
  ))
 all_goals (simp_all [b1c] <;> omega)
def ckL (n : Int) : List Ed -> List (List Int) -> Int
 | [], _ => 0
 | e :: r, seen => if !(b1c n e.a e.pa && b1c n e.b e.pb) then 3 else if e.a = e.b then 18
   else if seen.contains [e.a, e.pa] || seen.contains [e.b, e.pb] then 10 else ckL n r (seen ++ [[e.a, e.pa], [e.b, e.pb]])
def ckC (n : Int) (l : List Ed) : Int := if n < 1 \/ 24 < n then 3 else if l.length > 64 then 6 else ckL n l []
def a3p : List Ed -> List (List Int)
 | [] => []
 | e :: r => [e.a, e.pa] :: [e.b, e.pb] :: a3p r
theorem b8p (l r : List Ed) : a3p (l ++ r) = a3p l ++ a3p r := by
 induction l with
 | nil => rfl
 | cons e l ih => simp [a3p, ih]
theorem b6l (x : List Int) (l : List Ed) : x ∈ a3p l ↔ ∃ e ∈ l, x = [e.a, e.pa] \/ x = [e.b, e.pb] := by
 induction l with
 | nil => simp [a3p]
 | cons e l ih => simp [a3p, ih, or_assoc]
section
theorem take_succ {l : List Ed} {k : Nat} (h : k < l.length) : l.take (k + 1) = l.take k ++ [l.getD k ed0] := by
 rw [List.getD_eq_getElem?_getD, List.getElem?_eq_getElem h, Option.getD_some]; exact (List.take_append_getElem h).symm
theorem b9j {l : List Ed} {k : Nat} (h : k < l.length) : a3p (l.take (k + 1)) = a3p (l.take k) ++ [[(l.getD k ed0).a, (l.getD k ed0).pa], [(l.getD k ed0).b, (l.getD k ed0).pb]] := by
 rw [take_succ h, b8p]; rfl
end
theorem b5t (n : Int) (l : List Ed) (cap : Option Nat) (hl : l.length <= maxLen) :
  Runs Tryd.prog 26 [gA n l cap] [gB l] (Det (.val (.int .i64 (ckC n l))) [gB l]) := by
 have hmx : maxLen = 9223372036854775807 := by decide
 refine Runs.mk a1a Tryd.call26 Tryd.func26 rfl Tryd.ntmps26 Tryd.results26 rfl ?_
 (repeat' (first
  | refine SP ?_
  | (apply a0g <;> intro hb <;> (try simp only [nS, nT, eq_self, reduceCtorEq] at hb))
  | refine a0l ?_
  | (apply a04 [some 0]; (focus (iterate 2 (all_goals (repeat' (first | exact trivial | refine SP ?_ | refine And.intro ?_ ?_ | exact a0f rfl rfl rfl | refine a0r ?_ ))))); any_goals (apply a0h; rfl))
  ))
 ·simp [ckC]; omega
 ·simp [ckC]; omega
 ·simp [ckC]; omega
 refine a00 (σ := Nat) (fun x => x <= l.length /\ ckL n (l.drop x) (a3p (l.take x)) = ckL n l []) (fun x => ⟨[(1, .ptr 1 2 0 0), (3, .map 2), (22, .sl 0 4 0 l.length cap), (23, .val (.int .i64 l.length)), (24, .val (.int .i64 x))], [gB l, .var [.val (.int .i64 n), .sl 0 4 0 l.length cap], .map (some 2) (a3p (l.take x)) (fun _ => .val (.bool true))]⟩) (fun x => l.length - x) (0) ?_ ?_ ?_
 ·simp [a3p]
 ·(apply a0t [some 0, some 1, some 2]; (focus (iterate 2 (all_goals (repeat' (first | exact a0x rfl | refine map_mk ?_ ?_ | exact a0c | exact trivial | refine SP ?_ | refine And.intro ?_ ?_ | refine a0b ?_ ?_ | refine a0n ?_ | exact a0d rfl rfl | exact a0i rfl rfl rfl | exact a0a _ _ | exact a0f rfl rfl rfl ))))); any_goals (apply a0h; rfl))
  all_goals (try (first | rfl | (intro x hx; simp [a3p] at hx)))
 rintro k ⟨hk, ht⟩
 have hC : ckC n l = ckL n l [] := by unfold ckC; rw [if_neg (by omega), if_neg (by omega)]
 have hd := drop_cons l k ed0
 have he := fun h => b9j (l := l) (k := k) h
 (repeat' (first
  | refine SP ?_
  | (apply a0g <;> intro hb <;> (try simp only [nS, nT, eq_self, reduceCtorEq] at hb))
  | refine a0u (by decide +kernel) ?_
  | refine a0l ?_
  | refine OB ?_
  | ((first | apply a1y (c2k _ _ _ _ _) ); (focus (iterate 2 (all_goals (repeat' (first | exact a0c | exact trivial | refine SP ?_ | refine And.intro ?_ ?_ | refine a0b ?_ ?_ | refine a0o ?_ | exact a0i rfl rfl rfl | exact a0a _ _ | exact a0f rfl rfl rfl ))))); (try (any_goals fail)))
  | (apply a04 [some 0]; (focus (iterate 2 (all_goals (repeat' (first | exact trivial | refine SP ?_ | refine And.intro ?_ ?_ | exact a0f rfl rfl rfl | refine a0r ?_ ))))); any_goals (apply a0h; rfl))
  | (apply a0m (Subtype.mk (k + 1) _); (focus (apply a0t [some 0, some 1, some 2]; (focus (iterate 2 (all_goals (repeat' (first | exact a0x rfl | refine map_mk ?_ ?_ | exact a0c | exact trivial | refine SP ?_ | refine And.intro ?_ ?_ | refine a0b ?_ ?_ | refine a0n ?_ | exact a0d rfl rfl | exact a0i rfl rfl rfl | exact a0a _ _ | exact a0f rfl rfl rfl | ((refine a0r ?_); first | with_reducible rfl | omega | ((try simp only [wS]); omega) | rfl) ))))); any_goals (apply a0h; rfl))); (all_goals (try (first | (simp only; omega)))))
  ))
 all_goals (try simp only [Nat.zero_add, Int.toNat_natCast] at *)
 ·rw [hC, <- ht, hd (by omega)]; simp only [ckL, hb, Bool.false_and, Bool.not_false, if_true]
 ·rename_i h1; rw [hC, <- ht, hd (by omega)]; simp only [ckL, h1, hb, Bool.and_false, Bool.not_false, if_true]
 ·rename_i h1 h2; rw [hC, <- ht, hd (by omega)]; simp only [ckL, h1, h2, if_pos hb, Bool.and_true, Bool.not_true, Bool.false_eq_true, if_false]
 ·rename_i h1 h2 h3; rw [hC, <- ht, hd (by omega)]; simp only [ckL, h1, h2, h3, hb, Bool.and_true, Bool.not_true, Bool.false_eq_true, if_false, Bool.true_or, if_true]
 ·rename_i h1 h2 h3 h4; rw [hC, <- ht, hd (by omega)]; simp only [ckL, h1, h2, h3, h4, hb, Bool.and_true, Bool.not_true, Bool.false_eq_true, if_false, Bool.or_true, if_true]
 ·rename_i h1 h2 h3 h4
  have h5 : (a3p (l.take k) ++ [[(l.getD k ed0).a, (l.getD k ed0).pa]]).contains [(l.getD k ed0).b, (l.getD k ed0).pb] = false := by
   rw [Bool.eq_false_iff] at hb ⊢
   intro q
   rw [List.contains_iff_mem, List.mem_append] at q
   rcases q with q | q
   ·exact hb (List.contains_iff_mem.2 q)
   ·simp at q; exact h3 q.1.symm
  rw [he (by omega)]
  simp only [addKey, h4, cond_false, h5, List.append_assoc, List.cons_append, List.nil_append]
 ·intro x hx
  simp only [b1x]
  cases (x == [(l.getD k ed0).b, (l.getD k ed0).pb])
  ·cases (x == [(l.getD k ed0).a, (l.getD k ed0).pa]) <;> rfl
  ·rfl
 ·rename_i h1 h2 h3 h4
  rw [<- ht, hd (by omega), he (by omega)]
  simp only [ckL, h1, h2, h3, h4, hb, Bool.and_true, Bool.not_true, Bool.false_eq_true, if_false, Bool.or_false]
 ·rw [hC, <- ht, List.drop_of_length_le (by omega)]; rfl
end Go.Vx.L42
set_option maxRecDepth 100000
namespace Go.Vx.L42
open Go Go.Proofs
abbrev dC (d : DS) : List AV := [.val (.int .i64 d.p1), .val (.int .i64 d.cl), .val (.int .i64 d.ac), .val (.int .i64 d.va), .val (.int .i64 d.p2), .val (.int .u64 d.gm), .val (.int .i64 d.st), .val (.int .u64 d.se), .val (.int .i64 d.sp), .val (.int .u64 d.re), .val (.int .i64 d.rp)]
abbrev aD (d : DS) : AV := .agg (dC d)
def inI (n : Int) : Prop := -9223372036854775808 <= n /\ n <= 9223372036854775807
def inU (n : Int) : Prop := 0 <= n /\ n <= 18446744073709551615
structure wfD (d : DS) : Prop where
 p1 : inI d.p1
 cl : inI d.cl
 ac : inI d.ac
 va : inI d.va
 p2 : inI d.p2
 gm : inU d.gm
 st : inI d.st
 se : inU d.se
 sp : inI d.sp
 re : inU d.re
 rp : inI d.rp
theorem bvt {a : Int} (h0 : 0 <= a) (h1 : a < 18446744073709551616) : (BitVec.ofInt IntKind.u64.bits a).toNat = a.toNat := by
 rw [BitVec.toNat_ofInt]
 show (a % ((2:Int)^64)).toNat = a.toNat
 congr 1
 exact Int.emod_eq_of_lt h0 h1
theorem b41 (m : Nat) (h : m < 18446744073709551616) : m ^^^ 9223372036854775808 = if m < 9223372036854775808 then m + 9223372036854775808 else m - 9223372036854775808 := by
 have h1 : (m ^^^ 9223372036854775808) % 2 ^ 63 = (m % 2 ^ 63) ^^^ (9223372036854775808 % 2 ^ 63) := Nat.xor_mod_two_pow
 have h2 : (m ^^^ 9223372036854775808) / 2 ^ 63 = (m / 2 ^ 63) ^^^ (9223372036854775808 / 2 ^ 63) := Nat.xor_div_two_pow
 rw [show (9223372036854775808 : Nat) % 2 ^ 63 = 0 by decide, Nat.xor_zero] at h1
 rw [show (9223372036854775808 : Nat) / 2 ^ 63 = 1 by decide] at h2
 rw [show (2 : Nat) ^ 63 = 9223372036854775808 by decide] at h1 h2
 by_cases hm : m < 9223372036854775808
 ·rw [if_pos hm]
  rw [show m / 9223372036854775808 = 0 by omega, show (0 : Nat) ^^^ 1 = 1 by decide] at h2
  omega
 ·rw [if_neg hm]
  rw [show m / 9223372036854775808 = 1 by omega, show (1 : Nat) ^^^ 1 = 0 by decide] at h2
  omega
theorem a6n (n : Int) (h : inI n) : IntKind.u64.wrap ((BitVec.ofInt IntKind.u64.bits (IntKind.u64.wrap n) ^^^ BitVec.ofInt IntKind.u64.bits 9223372036854775808).toNat : Int) = n + 9223372036854775808 := by
 obtain ⟨h0, h1⟩ := h
 have e : IntKind.u64.wrap n = n % 18446744073709551616 := by rw [IntKind.wrap_u64]
 rw [BitVec.toNat_xor, bvt (by rw [e]; omega) (by rw [e]; omega), bvt (by decide) (by decide), e, show ((9223372036854775808 : Int)).toNat = 9223372036854775808 by decide, b41 _ (by omega), IntKind.wrap_u64]
 split <;> omega
def rkV (d : DS) : Nat -> Int
 | 0 => d.p1 + 9223372036854775808
 | 1 => d.cl + 9223372036854775808
 | 2 => d.ac + 9223372036854775808
 | 3 => d.va + 9223372036854775808
 | 4 => d.p2 + 9223372036854775808
 | 5 => d.gm
 | 6 => d.st + 9223372036854775808
 | 7 => d.se
 | 8 => d.sp + 9223372036854775808
 | 9 => d.re
 | 10 => d.rp + 9223372036854775808
 | _ => 0
theorem b9l (d : DS) (hd : wfD d) (k : Nat) (hk : k <= 10) : Runs Tryd.prog 50 [aD d, .val (.int .i64 k)] [] (Det (.val (.int .u64 (rkV d k))) []) := by
 obtain ⟨h0, h1, h2, h3, h4, h5, h6, h7, h8, h9, h10⟩ := hd
 have x0 := a6n _ h0
 have x1 := a6n _ h1
 have x2 := a6n _ h2
 have x3 := a6n _ h3
 have x4 := a6n _ h4
 have x6 := a6n _ h6
 have x8 := a6n _ h8
 have x10 := a6n _ h10
 have : k = 0 \/ k = 1 \/ k = 2 \/ k = 3 \/ k = 4 \/ k = 5 \/ k = 6 \/ k = 7 \/ k = 8 \/ k = 9 \/ k = 10 := by omega
 rcases this with rfl | rfl | rfl | rfl | rfl | rfl | rfl | rfl | rfl | rfl | rfl
 all_goals
  simp only [rkV]
  refine Runs.mk a1a Tryd.call50 Tryd.func50 rfl Tryd.ntmps50 Tryd.results50 rfl ?_
  (repeat' (first
  | refine SP ?_
  | refine a01 (by first | exact beq_self_eq_true _ | decide) ?_
  | refine a05 (by decide) ?_
  | refine a0l ?_
  | (apply a04 []; (focus (iterate 2 (all_goals (repeat' (first | exact trivial | refine And.intro ?_ ?_ | exact a0a _ _ | ((refine a0r ?_); first | with_reducible rfl | omega | ((try simp only [wS]); omega) | rfl) ))))); any_goals (apply a0h; rfl))
  ))
theorem c5p (x y : Int) : Runs Tryd.prog 74 [.val (.int .u64 x), .val (.int .u64 y)] [] (Det (.val (.int .i64 (if x < y then -1 else if y < x then 1 else 0))) []) := by
 have hn : ∀ z : Int, Runs Tryd.prog 86 [.val (.int .u64 z)] [] (Det (.sb false) []) := fun z => by
  refine Runs.mk a1a Tryd.call86 Tryd.func86 rfl Tryd.ntmps86 Tryd.results86 rfl ?_
  (repeat' (first
  | refine SP ?_
  | (apply a04 []; (focus (iterate 2 (all_goals (repeat' (first | exact trivial | refine And.intro ?_ ?_ | refine a1j ?_ ))))); any_goals (apply a0h; rfl))
  ))
  all_goals simp
 refine Runs.mk a1a Tryd.call74 Tryd.func74 rfl Tryd.ntmps74 Tryd.results74 rfl ?_
 (repeat' (first
  | refine SP ?_
  | (with_reducible refine a1k ?_)
  | (apply a0g <;> intro hb <;> (try simp only [nS, nT, eq_self, reduceCtorEq] at hb) <;> (try (exfalso; omega)))
  | refine a0l ?_
  | ((first | apply a2d (hn _) ); (focus (iterate 2 (all_goals (repeat' (first | exact a0c | refine a0b ?_ ?_ | exact a0a _ _ ))))))
  | (apply a04 []; (focus (iterate 2 (all_goals (repeat' (first | exact trivial | refine And.intro ?_ ?_ | ((refine a0r ?_); first | with_reducible rfl | omega | ((try simp only [wS]); omega) | rfl) ))))); any_goals (apply a0h; rfl))
  ))
def kyD (d : DS) (k : Nat) : Int := d.ks.getD k 0
theorem c7s (a b : DS) (k : Nat) (hk : k <= 10) : rkV a k < rkV b k ↔ kyD a k < kyD b k := by
 have : k = 0 \/ k = 1 \/ k = 2 \/ k = 3 \/ k = 4 \/ k = 5 \/ k = 6 \/ k = 7 \/ k = 8 \/ k = 9 \/ k = 10 := by omega
 rcases this with rfl | rfl | rfl | rfl | rfl | rfl | rfl | rfl | rfl | rfl | rfl
 all_goals (simp only [rkV, kyD, DS.ks, DS.mk6, DS.tl5, List.cons_append, List.nil_append, List.getD_cons_zero, List.getD_cons_succ]; first | done | omega)
theorem b4o : ∀ (k : Nat) (a b : List Int), k < a.length -> a.length = b.length -> (∀ y, y < k -> a.getD y 0 = b.getD y 0) -> (a.getD k 0 < b.getD k 0 -> lexB a b = true) /\ (b.getD k 0 < a.getD k 0 -> lexB a b = false)
 | _, [], _, h, _, _ => by simp at h
 | _, _ :: _, [], _, h, _ => by simp at h
 | 0, a :: x, b :: y, _, _, _ => by
  simp only [List.getD_cons_zero, lexB]
  refine ⟨fun h => if_pos h, fun h => ?_⟩
  rw [if_neg (by omega), if_pos h]
 | k + 1, a :: x, b :: y, h1, h2, h3 => by
  have e : a = b := by simpa using h3 0 (by omega)
  subst e
  simp only [List.getD_cons_succ, lexB]
  rw [if_neg (by omega), if_neg (by omega)]
  exact b4o k x y (by simpa using h1) (by simpa using h2) fun z hz => by simpa using h3 (z + 1) (by omega)
theorem b4a : ∀ (a b : List Int), a.length = b.length -> (∀ y, y < a.length -> a.getD y 0 = b.getD y 0) -> a = b
 | [], [], _, _ => rfl
 | [], _ :: _, h, _ => by simp at h
 | _ :: _, [], h, _ => by simp at h
 | a :: x, b :: y, h1, h2 => by
  have e : a = b := by simpa using h2 0 (by simp)
  rw [e, b4a x y (by simpa using h1) fun z hz => by simpa using h2 (z + 1) (by simpa using hz)]
def b8d (a b : DS) : Int := if a2e a b = true then -1 else if a2e b a = true then 1 else 0
theorem b83 (d : DS) : d.ks.length = 11 := rfl
theorem c7f : (c10 0).length = 14 := rfl
theorem c89 (x : Nat) (hx : x < 11) : (c10 0).getD (0 + Int.toNat (x : Int) * 1) 0 = x := by
 have : x = 0 \/ x = 1 \/ x = 2 \/ x = 3 \/ x = 4 \/ x = 5 \/ x = 6 \/ x = 7 \/ x = 8 \/ x = 9 \/ x = 10 := by omega
 rcases this with rfl | rfl | rfl | rfl | rfl | rfl | rfl | rfl | rfl | rfl | rfl <;> rfl
set_option maxHeartbeats 2000000 in
theorem b7e (a b : DS) (ha : wfD a) (hb' : wfD b) : Runs Tryd.prog 51 [.agg [.fn (.func 50) []], aD a, aD b, .val (.int .i64 0), .val (.int .i64 11)] [] (Det (.val (.int .i64 (b8d a b))) []) := by
 have hgn := c7f
 refine Runs.mk a1a Tryd.call51 Tryd.func51 rfl Tryd.ntmps51 Tryd.results51 rfl ?_
 (repeat' (first
  | refine SP ?_
  | refine a0l ?_
  ))
 refine a00 (σ := Nat) (fun x => x <= 11 /\ ∀ y, y < x -> kyD a y = kyD b y) (fun x => ⟨[(4, .val (.int .i64 11)), (5, .ptr 0 1 0 0), (6, .ptr 1 11 0 0), (7, .ptr 2 11 0 0), (11, .val (.int .i64 x))], [.var [.fn (.func 50) []], .var (dC a), .var (dC b)]⟩) (fun x => 11 - x) (0) ?_ ?_ ?_
 ·exact ⟨by omega, fun y h => by omega⟩
 ·(apply a0t [some 0, some 1, some 2]; (focus (iterate 2 (all_goals (repeat' (first | exact a0c | exact trivial | refine SP ?_ | refine And.intro ?_ ?_ | refine a0b ?_ ?_ | refine a2z ?_ | refine a0n ?_ | exact a0d rfl rfl | exact a0a _ _ ))))); any_goals (apply a0h; rfl))
 rintro x ⟨hx, hxe⟩
 by_cases hx11 : x < 11
 ·have e := c89 x hx11
  have r1 := b9l a ha x (by omega)
  have r2 := b9l b hb' x (by omega)
  have l1 := c7s a b x (by omega)
  have l2 := c7s b a x (by omega)
  have hc := c5p (rkV a x) (rkV b x)
  rw [<- e] at r1 r2
  have hat := b4o x a.ks b.ks (by rw [b83]; exact hx11) rfl hxe
  have hat2 := b4o x b.ks a.ks (by rw [b83]; exact hx11) rfl (fun y h => (hxe y h).symm)
  by_cases c1 : kyD a x < kyD b x
  ·have e1 : b8d a b = -1 := by unfold b8d a2e; rw [if_pos (hat.1 c1)]
   rw [if_pos (l1.2 c1)] at hc
   rw [e1]
   generalize rkV a x = ra at *
   generalize rkV b x = rb' at *
   (repeat' (first
  | refine SP ?_
  | (apply a0g <;> intro hb <;> (try simp only [nS, nT, eq_self, reduceCtorEq] at hb) <;> (try (exfalso; omega)))
  | refine a0u (by decide +kernel) ?_
  | refine a0l ?_
  | refine OB ?_
  | ((first | apply a1o (r1)); (focus ((iterate 2 (all_goals (repeat' (first | exact a0c | refine a0b ?_ ?_ | refine a0o ?_ | exact a0a _ _ | refine a0r ?_ )))); done)))
  | ((first | apply a1o (r2)); (focus ((iterate 2 (all_goals (repeat' (first | exact a0c | refine a0b ?_ ?_ | refine a0o ?_ | exact a0a _ _ )))); done)))
  | ((first | apply a1o (hc)); (focus ((iterate 2 (all_goals (repeat' (first | exact a0c | refine a0b ?_ ?_ | exact a0a _ _ )))); done)))
  | (apply a04 []; (focus (iterate 2 (all_goals (repeat' (first | exact trivial | refine And.intro ?_ ?_ | exact a0a _ _ ))))); any_goals (apply a0h; rfl))
  ))
  ·by_cases c2 : kyD b x < kyD a x
   ·have e1 : b8d a b = 1 := by unfold b8d a2e; rw [if_neg (by rw [hat.2 c2]; simp), if_pos (hat2.1 c2)]
    rw [if_neg (fun h => c1 (l1.1 h)), if_pos (l2.2 c2)] at hc
    rw [e1]
    (repeat' (first
  | refine SP ?_
  | (apply a0g <;> intro hb <;> (try simp only [nS, nT, eq_self, reduceCtorEq] at hb) <;> (try (exfalso; omega)))
  | refine a0u (by decide +kernel) ?_
  | refine a0l ?_
  | refine OB ?_
  | ((first | apply a1o (r1)); (focus ((iterate 2 (all_goals (repeat' (first | exact a0c | refine a0b ?_ ?_ | refine a0o ?_ | exact a0a _ _ | refine a0r ?_ )))); done)))
  | ((first | apply a1o (r2)); (focus ((iterate 2 (all_goals (repeat' (first | exact a0c | refine a0b ?_ ?_ | refine a0o ?_ | exact a0a _ _ )))); done)))
  | ((first | apply a1o (hc)); (focus ((iterate 2 (all_goals (repeat' (first | exact a0c | refine a0b ?_ ?_ | exact a0a _ _ )))); done)))
  | (apply a04 []; (focus (iterate 2 (all_goals (repeat' (first | exact trivial | refine And.intro ?_ ?_ | exact a0a _ _ ))))); any_goals (apply a0h; rfl))
  ))
   ·rw [if_neg (fun h => c1 (l1.1 h)), if_neg (fun h => c2 (l2.1 h))] at hc
    have hxe' : ∀ y, y < x + 1 -> kyD a y = kyD b y := fun y hy => by
     by_cases h : y = x
     ·rw [h]; omega
     ·exact hxe y (by omega)
    (repeat' (first
  | refine SP ?_
  | (apply a0g <;> intro hb <;> (try simp only [nS, nT, eq_self, reduceCtorEq] at hb) <;> (try (exfalso; omega)))
  | refine a0u (by decide +kernel) ?_
  | refine a0l ?_
  | refine OB ?_
  | ((first | apply a1o (r1)); (focus ((iterate 2 (all_goals (repeat' (first | exact a0c | refine a0b ?_ ?_ | refine a0o ?_ | exact a0a _ _ | refine a0r ?_ )))); done)))
  | ((first | apply a1o (r2)); (focus ((iterate 2 (all_goals (repeat' (first | exact a0c | refine a0b ?_ ?_ | refine a0o ?_ | exact a0a _ _ )))); done)))
  | ((first | apply a1o (hc)); (focus ((iterate 2 (all_goals (repeat' (first | exact a0c | refine a0b ?_ ?_ | exact a0a _ _ )))); done)))
  | (apply a0m (Subtype.mk (x + 1) ⟨by omega, hxe'⟩); (focus (apply a0t [some 0, some 1, some 2]; (focus (iterate 2 (all_goals (repeat' (first | exact a0c | exact trivial | refine SP ?_ | refine And.intro ?_ ?_ | refine a0b ?_ ?_ | refine a2z ?_ | refine a0n ?_ | exact a0d rfl rfl | exact a0a _ _ | ((refine a0r ?_); first | with_reducible rfl | omega | ((try simp only [wS]); omega) | rfl) ))))); any_goals (apply a0h; rfl))); (all_goals (try (first | (simp only; omega)))))
  ))
 ·have e1 : b8d a b = 0 := by
   have hk : a.ks = b.ks := b4a _ _ rfl fun y hy => hxe y (by rw [b83] at hy; omega)
   unfold b8d a2e
   rw [hk, a5o]; rfl
  rw [e1]
  (repeat' (first
  | refine SP ?_
  | (apply a0g <;> intro hb <;> (try simp only [nS, nT, eq_self, reduceCtorEq] at hb) <;> (try (exfalso; omega)))
  | refine a0l ?_
  | (apply a04 []; (focus (iterate 2 (all_goals (repeat' (first | exact trivial | refine And.intro ?_ ?_ | exact a0a _ _ ))))); any_goals (apply a0h; rfl))
  ))
theorem b0l (a b : DS) (ha : wfD a) (hb' : wfD b) : Runs Tryd.prog 24 [aD a, aD b] [] (Det (.sb (a2e a b)) []) := by
 have hc := b7e a b ha hb'
 by_cases h1 : a2e a b = true
 ·have e : b8d a b = -1 := by unfold b8d; rw [if_pos h1]
  rw [e] at hc
  rw [h1]
  refine Runs.mk a1a Tryd.call24 Tryd.func24 rfl Tryd.ntmps24 Tryd.results24 rfl ?_
  (repeat' (first
  | refine SP ?_
  | ((first | apply a2d (hc) ); (focus ((iterate 2 (all_goals (repeat' (first | exact a0c | refine a0b ?_ ?_ | refine a0o ?_ | refine a2z ?_ | exact a0a _ _ )))); done)))
  | (apply a04 []; (focus (iterate 2 (all_goals (repeat' (first | exact trivial | refine And.intro ?_ ?_ | exact a1j rfl ))))); any_goals (apply a0h; rfl))
  ))
 ·have e : 0 <= b8d a b := by unfold b8d; rw [if_neg h1]; split <;> omega
  rw [show a2e a b = false by simpa using h1]
  generalize b8d a b = c at *
  refine Runs.mk a1a Tryd.call24 Tryd.func24 rfl Tryd.ntmps24 Tryd.results24 rfl ?_
  (repeat' (first
  | refine SP ?_
  | ((first | apply a2d (hc) ); (focus ((iterate 2 (all_goals (repeat' (first | exact a0c | refine a0b ?_ ?_ | refine a0o ?_ | refine a2z ?_ | exact a0a _ _ )))); done)))
  | (apply a04 []; (focus (iterate 2 (all_goals (repeat' (first | exact trivial | refine And.intro ?_ ?_ | refine a1j ?_ ))))); any_goals (apply a0h; rfl))
  ))
  all_goals exact decide_eq_false (by omega)
end Go.Vx.L42
namespace Go.Vx.L42
theorem b1q {α : Type} {p q : α -> Bool} (h : ∀ x, p x = true -> q x = true) : ∀ {l : List α}, (∃ x, x ∈ l /\ q x = true /\ p x = false) -> l.countP p < l.countP q
 | [], ⟨_, h1, _⟩ => by cases h1
 | a :: l, ⟨x, h1, h2, h3⟩ => by
  have hle : l.countP p <= l.countP q := List.countP_mono_left fun x _ => h x
  rw [List.countP_cons, List.countP_cons]
  rcases List.mem_cons.1 h1 with rfl | h1
  ·rw [h2, h3]; simp; omega
  ·have ih := b1q h ⟨x, h1, h2, h3⟩
   cases hp : p a
   ·simp; omega
   ·rw [h a hp]; simp; omega
theorem c3u {G : NetP} (hG : G.OK) {D : Nat -> Nat -> Int} (hD : G.Dst D) {i : Nat} (hi : i < G.n) : ∀ (k : Nat) (y : Nat), y < G.n -> D i y = k -> k + 1 <= (List.range G.n).countP (fun z => decide (0 <= D i z) && decide (D i z <= k))
 | 0, y, hy, hk => by
  have : 0 < (List.range G.n).countP (fun z => decide (0 <= D i z) && decide (D i z <= (0 : Nat))) := by
   rw [List.countP_pos_iff]
   exact ⟨y, List.mem_range.2 hy, by simp; omega⟩
  omega
 | k + 1, y, hy, hk => by
  obtain ⟨p, z, q, hp, hz⟩ := hD.back i y hi hy (by omega)
  obtain ⟨⟨_, hzn⟩, _⟩ := hG.pe_ok _ _ _ _ hp
  have ih := c3u hG hD hi k z hzn (by omega)
  have := b1q (p := fun z => decide (0 <= D i z) && decide (D i z <= k)) (q := fun z => decide (0 <= D i z) && decide (D i z <= (k + 1 : Nat)))
   (fun x h => by simp only [Bool.and_eq_true, decide_eq_true_eq] at h ⊢; omega) (l := List.range G.n) ⟨y, List.mem_range.2 hy, by simp; omega, by
    rw [Bool.and_eq_false_iff]; right; exact decide_eq_false (by omega)⟩
  omega
theorem c2u {G : NetP} (hG : G.OK) {D : Nat -> Nat -> Int} (hD : G.Dst D) {i y : Nat} (hi : i < G.n) (hy : y < G.n) : D i y < G.n := by
 by_cases h : 0 <= D i y
 ·obtain ⟨k, hk⟩ := Int.eq_ofNat_of_zero_le h
  have h1 := c3u hG hD hi k y hy hk
  have h2 := List.countP_le_length (p := fun z => decide (0 <= D i z) && decide (D i z <= k)) (l := List.range G.n)
  rw [List.length_range] at h2
  omega
 ·omega
def b1e (ow : Nat -> DS) (d : Nat -> Int) (x : Nat) : Nat -> Nat × Int
 | 0 => (x, 0)
 | i + 1 => if 0 <= d i /\ a2e (ow i) (ow (b1e ow d x i).1) = true then (i, d i) else b1e ow d x i
theorem c1q {G : NetP} (hG : G.OK) {i j : Nat} (hi : i < G.n) (hj : j < G.n) (hij : i ≠ j) : a2e (G.ow i) (G.ow j) = ltM (G.ow i) (G.ow j) := by
 cases h : ltM (G.ow i) (G.ow j)
 ·cases h2 : ltM (G.ow j) (G.ow i)
  ·exfalso
   have := a6s (a := (G.ow i).mk6) (b := (G.ow j).mk6) rfl h h2
   have := b30 this
   rw [hG.gm, hG.gm] at this
   exact hij (hG.inj i j hi hj this)
  ·exact a5b h2
 ·exact a4u h
theorem c1j {a b c : DS} (h : ltM a b = true) (g : ltM b c = true) : ltM a c = true := a6p h g
theorem c2e {G : NetP} (hG : G.OK) {i j : Nat} (hi : i < G.n) (hj : j < G.n) (hij : i ≠ j) (h : ltM (G.ow i) (G.ow j) = false) : ltM (G.ow j) (G.ow i) = true := by
 cases h2 : ltM (G.ow j) (G.ow i)
 ·exfalso
  have := a6s (a := (G.ow i).mk6) (b := (G.ow j).mk6) rfl h h2
  have := b30 this
  rw [hG.gm, hG.gm] at this
  exact hij (hG.inj i j hi hj this)
 ·rfl
theorem b4c {G : NetP} (hG : G.OK) {D : Nat -> Nat -> Int} (hD : G.Dst D) {x : Nat} (hx : x < G.n) : ∀ i, i <= G.n -> (b1e G.ow (D x) x i).1 < G.n /\ 0 <= D x (b1e G.ow (D x) x i).1 /\ (b1e G.ow (D x) x i).2 = D x (b1e G.ow (D x) x i).1 /\
  ∀ j, (j < i \/ j = x) -> 0 <= D x j -> j ≠ (b1e G.ow (D x) x i).1 -> ltM (G.ow (b1e G.ow (D x) x i).1) (G.ow j) = true
 | 0, _ => by
  refine ⟨hx, by show 0 <= D x x; rw [hD.zero x hx]; omega, (hD.zero x hx).symm, fun j hj _ hn => ?_⟩
  rcases hj with hj | rfl
  ·omega
  ·exact absurd rfl hn
 | i + 1, hi => by
  obtain ⟨h1, h2, h3, h4⟩ := b4c hG hD hx i (by omega)
  generalize hc : b1e G.ow (D x) x i = c at *
  have e : b1e G.ow (D x) x (i + 1) = if 0 <= D x i /\ a2e (G.ow i) (G.ow c.1) = true then (i, D x i) else c := by rw [<- hc]; rfl
  by_cases h : 0 <= D x i /\ a2e (G.ow i) (G.ow c.1) = true
  ·rw [e, if_pos h]
   have hne : i ≠ c.1 := fun e => by rw [e, a94] at h; exact absurd h.2 (by simp)
   have hlt : ltM (G.ow i) (G.ow c.1) = true := by rw [<- c1q hG (by omega) h1 hne]; exact h.2
   refine ⟨by show i < G.n; omega, h.1, rfl, fun j hj hd hn => ?_⟩
   show ltM (G.ow i) (G.ow j) = true
   by_cases hjc : j = c.1
   ·rw [hjc]; exact hlt
   ·refine c1j hlt (h4 j ?_ hd hjc)
    rcases hj with hj | hj
    ·by_cases hji : j = i
     ·exact absurd hji hn
     ·exact .inl (by omega)
    ·exact .inr hj
  ·rw [e, if_neg h]
   refine ⟨h1, h2, h3, fun j hj hd hn => ?_⟩
   by_cases hji : j = i
   ·subst hji
    have hf : ltM (G.ow j) (G.ow c.1) = false := by
     rw [<- c1q hG (by omega) h1 hn]
     cases hl : a2e (G.ow j) (G.ow c.1)
     ·rfl
     ·exact absurd ⟨hd, hl⟩ h
    exact c2e hG (by omega) h1 hn hf
   ·exact h4 j (hj.imp (by omega) id) hd hn
theorem b4n {G : NetP} (hG : G.OK) {D : Nat -> Nat -> Int} (hD : G.Dst D) (hs : ∀ i j, i < G.n -> j < G.n -> D i j = D j i) {x : Nat} (hx : x < G.n) : G.Best D (b1e G.ow (D x) x G.n).1 /\ (b1e G.ow (D x) x G.n).2 = D (b1e G.ow (D x) x G.n).1 x /\ 0 <= D (b1e G.ow (D x) x G.n).1 x := by
 obtain ⟨h1, h2, h3, h4⟩ := b4c hG hD hx G.n (Nat.le_refl _)
 generalize b1e G.ow (D x) x G.n = c at *
 refine ⟨⟨h1, fun i hi hd hn => h4 i (.inl hi) ?_ hn⟩, by rw [h3, hs x c.1 hx h1], by rw [hs c.1 x h1 hx]; exact h2⟩
 exact hD.comp x i c.1 hx hi h1 h2 (by rw [hs i c.1 hi h1]; exact hd)
end Go.Vx.L42
set_option maxRecDepth 100000
namespace Go.Vx.L42
open Go Go.Proofs
def hasB (n : Int) (l : List Ed) (a : Int) : Bool := decide (ckC n l = 0 /\ 0 <= a /\ a < n)
theorem b85 (n : Int) (l : List Ed) (cap : Option Nat) (hl : l.length <= maxLen) (a : Int) :
  Runs Tryd.prog 46 [gA n l cap, .val (.int .i64 a)] [gB l] (Det (.sb (hasB n l a)) [gB l]) := by
 refine Runs.mk a1a Tryd.call46 Tryd.func46 rfl Tryd.ntmps46 Tryd.results46 rfl ?_
 (repeat' (first
  | refine SP ?_
  | (apply a0g <;> intro hb <;> (try simp only [nS, nT, eq_self, reduceCtorEq] at hb))
  | ((first | apply a1y (b5t _ _ _ hl) ); (focus (iterate 2 (all_goals (repeat' (first | exact a0c | exact trivial | refine SP ?_ | refine And.intro ?_ ?_ | refine a0b ?_ ?_ | refine a0o ?_ | exact a0i rfl rfl rfl | exact a0a _ _ | exact a0f rfl rfl rfl ))))); (try (any_goals fail)))
  | (apply a04 [some 0]; (focus (iterate 2 (all_goals (repeat' (first | exact trivial | refine SP ?_ | refine And.intro ?_ ?_ | exact a0f rfl rfl rfl | refine a1j ?_ | refine a1b ?_ ))))); any_goals (apply a0h; rfl))
  ))
 all_goals (simp_all [hasB] <;> omega)
def a4a : List Ed -> Int -> Int -> Int × Int × Bool
 | [], _, _ => (0, 0, false)
 | e :: r, a, p => if e.a = a /\ e.pa = p then (e.b, e.pb, true) else if e.b = a /\ e.pb = p then (e.a, e.pa, true) else a4a r a p
def a1r (n : Int) (l : List Ed) (a p : Int) : Int × Int × Bool := if hasB n l a then a4a l a p else (0, 0, false)
abbrev c82 (x : Int × Int × Bool) : AV := .tup [.val (.int .i64 x.1), .val (.int .i64 x.2.1), .sb x.2.2]
theorem a7d (n : Int) (l : List Ed) (cap : Option Nat) (hl : l.length <= maxLen) (a p : Int) :
  Runs Tryd.prog 35 [gA n l cap, .val (.int .i64 a), .val (.int .i64 p)] [gB l] (Det (c82 (a1r n l a p)) [gB l]) := by
 have hmx : maxLen = 9223372036854775807 := by decide
 refine Runs.mk a1a Tryd.call35 Tryd.func35 rfl Tryd.ntmps35 Tryd.results35 rfl ?_
 (repeat' (first
  | refine SP ?_
  | (apply a0g <;> intro hb <;> (try simp only [nS, nT, eq_self, reduceCtorEq] at hb))
  | refine a0l ?_
  | ((first | apply a1y (b85 _ _ _ hl _) ); (focus (iterate 2 (all_goals (repeat' (first | exact a0c | exact trivial | refine SP ?_ | refine And.intro ?_ ?_ | refine a0b ?_ ?_ | refine a0o ?_ | exact a0i rfl rfl rfl | exact a0a _ _ | exact a0f rfl rfl rfl ))))); (try (any_goals fail)))
  | (apply a04 [some 0]; (focus (iterate 2 (all_goals (repeat' (first | exact a0c | exact trivial | refine SP ?_ | refine And.intro ?_ ?_ | refine a0b ?_ ?_ | refine a3m ?_ | exact a0f rfl rfl rfl | refine a0r ?_ | refine a1b ?_ ))))); any_goals (apply a0h; rfl))
  ))
 all_goals (try (simp [a1r, hb]; done))
 refine a00 (σ := Nat) (fun x => x <= l.length /\ a4a (l.drop x) a p = a4a l a p) (fun x => ⟨[(1, .val (.int .i64 a)), (2, .val (.int .i64 p)), (16, .sl 0 4 0 l.length cap), (17, .val (.int .i64 l.length)), (18, .val (.int .i64 x))], [gB l]⟩) (fun x => l.length - x) (0) ?_ ?_ ?_
 ·simp
 ·(apply a0t [some 0]; (focus (iterate 2 (all_goals (repeat' (first | exact trivial | refine SP ?_ | refine And.intro ?_ ?_ | exact a0i rfl rfl rfl | exact a0a _ _ | exact a0f rfl rfl rfl ))))); any_goals (apply a0h; rfl))
 rintro k ⟨hk, ht⟩
 have hC : a1r n l a p = a4a l a p := by unfold a1r; rw [if_pos hb]
 have hd := drop_cons l k ed0
 clear hb
 (repeat' (first
  | refine SP ?_
  | (apply a0g <;> intro hb <;> (try simp only [nS, nT, eq_self, reduceCtorEq] at hb))
  | refine a0u (by decide +kernel) ?_
  | refine a0l ?_
  | refine OB ?_
  | (apply a04 [some 0]; (focus (iterate 2 (all_goals (repeat' (first | exact a0c | exact trivial | refine SP ?_ | refine And.intro ?_ ?_ | refine a0b ?_ ?_ | refine a3m ?_ | exact a0f rfl rfl rfl | refine a0r ?_ | refine a1b ?_ ))))); any_goals (apply a0h; rfl))
  | (apply a0m (Subtype.mk (k + 1) _); (focus (apply a0t [some 0]; (focus (iterate 2 (all_goals (repeat' (first | exact trivial | refine SP ?_ | refine And.intro ?_ ?_ | exact a0i rfl rfl rfl | exact a0a _ _ | exact a0f rfl rfl rfl | ((refine a0r ?_); first | with_reducible rfl | omega | ((try simp only [wS]); omega) | rfl) ))))); any_goals (apply a0h; rfl))); (all_goals (try (first | (simp only; omega)))))
  ))
 all_goals (try simp only [Nat.zero_add, Int.toNat_natCast] at *)
 all_goals (try rw [hC])
 all_goals (rw [<- ht])
 all_goals first
  | (rw [hd (by omega)]; simp_all [a4a]; done)
  | (rw [List.drop_of_length_le (by omega)]; rfl)
  | fail
abbrev iB (rw : Bool) (l : List Int) : Blk := .arr rw 3 1 l.length (b52 l)
end Go.Vx.L42
set_option maxRecDepth 100000
namespace Go.Vx.L42
open Go Go.Proofs
def pbC (o : Option DS) : List AV := .sb o.isSome :: dC (o.getD default)
instance : FlatC pbC := ⟨fun x v h => by simp [pbC, dC] at h; rcases h with rfl | rfl | rfl | rfl | rfl | rfl | rfl | rfl | rfl | rfl | rfl | rfl <;> trivial⟩
abbrev pbF (l : List (Option DS)) : Nat -> Nat -> AV := a2x pbC none l
abbrev pB (l : List (Option DS)) : Blk := .arr false 151 12 l.length (pbF l)
def wfP (l : List (Option DS)) : Prop := ∀ i, wfD (a3g l i) /\ 0 <= (a3g l i).st /\ (a3g l i).st <= 1000000
theorem b9t (ps : List (Option DS)) (x : Nat) : -1 <= bst ps x /\ bst ps x < x := by
 rcases a9h ps x with ⟨h, _⟩ | ⟨h, _⟩ <;> omega
set_option maxHeartbeats 1000000 in
theorem c28 (ps : List (Option DS)) (cap : Option Nat) (hn : ps.length <= 1000) (hw : wfP ps) : Runs Tryd.prog 67 [.sl 0 12 0 ps.length cap] [pB ps] (Det (.val (.int .i64 (a56 ps))) [pB ps]) := by
 refine Runs.mk a1a Tryd.call67 Tryd.func67 rfl Tryd.ntmps67 Tryd.results67 rfl ?_
 (repeat' (first
  | refine SP ?_
  | refine a0l ?_
  ))
 refine a00 (σ := Nat) (fun x => x <= ps.length) (fun x => ⟨[(0, .sl 0 12 0 ps.length cap), (3, .val (.int .i64 (bst ps x))), (6, .sl 0 12 0 ps.length cap), (7, .val (.int .i64 ps.length)), (8, .val (.int .i64 x))], [pB ps]⟩) (fun x => ps.length - x) (0) ?_ ?_ ?_
 ·omega
 ·(apply a0t [some 0]; (focus (iterate 2 (all_goals (repeat' (first | exact trivial | refine SP ?_ | refine And.intro ?_ ?_ | exact a0i rfl rfl rfl | exact a0a _ _ | exact a0f rfl rfl rfl ))))); any_goals (apply a0h; rfl))
 rintro x hx
 by_cases hxl : x < ps.length
 ·have hz : 0 + Int.toNat (x : Int) = x := by omega
  have hs : bst ps (x + 1) = if a55 ps x = true /\ (bst ps x < 0 \/ a2e (a3g ps x) (a3g ps (bst ps x).toNat) = true) then (x : Int) else bst ps x := rfl
  obtain ⟨b0, b1⟩ := b9t ps x
  have hl := b0l (a3g ps x) (a3g ps (bst ps x).toNat) (hw _).1 (hw _).1
  have hh : (ps.getD (0 + Int.toNat (x : Int)) none).isSome = a55 ps x := by rw [hz]
  cases hc : a55 ps x
  ·rw [hc] at hh
   rw [hc, if_neg (fun h => by cases h.1)] at hs
   generalize bst ps x = b at *
   (repeat' (first
  | refine SP ?_
  | (apply a0g <;> intro hb <;> (try simp only [nS, nT, eq_self, reduceCtorEq] at hb) <;> (try (exfalso; (first | omega | (rw [hh] at hb; cases hb)); done)))
  | refine a0u (by decide +kernel) ?_
  | refine a0l ?_
  | refine OB ?_
  | (rw [hh])
  | (apply a0m (Subtype.mk (x + 1) (by first | omega | (simp only; omega))); (focus (rw [hs]; apply a0t [some 0]; (focus (iterate 2 (all_goals (repeat' (first | exact trivial | refine SP ?_ | refine And.intro ?_ ?_ | exact a0i rfl rfl rfl | exact a0a _ _ | exact a0f rfl rfl rfl | ((refine a0r ?_); first | with_reducible rfl | omega | ((try simp only [wS]); omega) | rfl) ))))); any_goals (apply a0h; rfl))); (all_goals (try (first | (simp only; omega)))))
  ))
  ·rw [hc] at hh
   have hlt : ∀ y : Int, y < 0 -> bst ps x = y -> bst ps (x + 1) = x := fun y h1 h2 => by rw [hs, if_pos ⟨hc, .inl (by omega)⟩]
   have hs1 : 0 <= bst ps x -> a2e (a3g ps x) (a3g ps (bst ps x).toNat) = true -> bst ps (x + 1) = x := fun h1 h2 => by rw [hs, if_pos ⟨hc, .inr h2⟩]
   have hs0 : 0 <= bst ps x -> a2e (a3g ps x) (a3g ps (bst ps x).toNat) = false -> bst ps (x + 1) = bst ps x := fun h1 h2 => by
    rw [hs, if_neg]; rintro ⟨_, h | h⟩
    ·omega
    ·rw [h2] at h; cases h
   clear hs
   generalize bst ps x = b at *
   by_cases hb0 : b < 0
   ·have hs := hlt b hb0 rfl
    (repeat' (first
  | refine SP ?_
  | (apply a0g <;> intro hb <;> (try simp only [nS, nT, eq_self, reduceCtorEq] at hb) <;> (try (exfalso; (first | omega | (rw [hh] at hb; cases hb)); done)))
  | refine a0u (by decide +kernel) ?_
  | refine a0l ?_
  | refine OB ?_
  | (apply a0m (Subtype.mk (x + 1) (by first | omega | (simp only; omega))); (focus (rw [hs]; apply a0t [some 0]; (focus (iterate 2 (all_goals (repeat' (first | exact trivial | refine SP ?_ | refine And.intro ?_ ?_ | exact a0i rfl rfl rfl | exact a0a _ _ | exact a0f rfl rfl rfl | ((refine a0r ?_); first | with_reducible rfl | omega | ((try simp only [wS]); omega) | rfl) ))))); any_goals (apply a0h; rfl))); (all_goals (try (first | (simp only; omega)))))
  ))
   ·cases hd : a2e (a3g ps x) (a3g ps b.toNat)
    ·have hs := hs0 (by omega) hd
     rw [hd] at hl
     rw [<- hz, <- Nat.zero_add b.toNat] at hl
     (repeat' (first
  | refine SP ?_
  | refine a05 (by decide) ?_
  | (apply a0g <;> intro hb <;> (try simp only [nS, nT, eq_self, reduceCtorEq] at hb) <;> (try (exfalso; (first | omega | (rw [hh] at hb; cases hb)); done)))
  | refine a0u (by decide +kernel) ?_
  | refine a0l ?_
  | refine OB ?_
  | ((first | apply a1o (hl)); (focus ((iterate 2 (all_goals (repeat' (first | exact a0c | refine a0b ?_ ?_ | refine a0o ?_ | exact a0a _ _ )))); done)))
  | (apply a0m (Subtype.mk (x + 1) (by first | omega | (simp only; omega))); (focus (rw [hs]; apply a0t [some 0]; (focus (iterate 2 (all_goals (repeat' (first | exact trivial | refine SP ?_ | refine And.intro ?_ ?_ | exact a0i rfl rfl rfl | exact a0a _ _ | exact a0f rfl rfl rfl | ((refine a0r ?_); first | with_reducible rfl | omega | ((try simp only [wS]); omega) | rfl) ))))); any_goals (apply a0h; rfl))); (all_goals (try (first | (simp only; omega)))))
  ))
    ·have hs := hs1 (by omega) hd
     rw [hd] at hl
     rw [<- hz, <- Nat.zero_add b.toNat] at hl
     (repeat' (first
  | refine SP ?_
  | refine a01 (by first | exact beq_self_eq_true _ | decide) ?_
  | (apply a0g <;> intro hb <;> (try simp only [nS, nT, eq_self, reduceCtorEq] at hb) <;> (try (exfalso; (first | omega | (rw [hh] at hb; cases hb)); done)))
  | refine a0u (by decide +kernel) ?_
  | refine a0l ?_
  | refine OB ?_
  | ((first | apply a1o (hl)); (focus ((iterate 2 (all_goals (repeat' (first | exact a0c | refine a0b ?_ ?_ | refine a0o ?_ | exact a0a _ _ )))); done)))
  | (apply a0m (Subtype.mk (x + 1) (by first | omega | (simp only; omega))); (focus (rw [hs]; apply a0t [some 0]; (focus (iterate 2 (all_goals (repeat' (first | exact trivial | refine SP ?_ | refine And.intro ?_ ?_ | exact a0i rfl rfl rfl | exact a0a _ _ | exact a0f rfl rfl rfl | ((refine a0r ?_); first | with_reducible rfl | omega | ((try simp only [wS]); omega) | rfl) ))))); any_goals (apply a0h; rfl))); (all_goals (try (first | (simp only; omega)))))
  ))
 ·have hx' : x = ps.length := by omega
  subst hx'
  rw [show bst ps ps.length = a56 ps from rfl]
  (repeat' (first
  | refine SP ?_
  | (apply a0g <;> intro hb <;> (try simp only [nS, nT, eq_self, reduceCtorEq] at hb) <;> (try (exfalso; omega)))
  | (apply a04 [some 0]; (focus (iterate 2 (all_goals (repeat' (first | exact trivial | refine SP ?_ | refine And.intro ?_ ?_ | exact a0a _ _ | exact a0f rfl rfl rfl ))))); any_goals (apply a0h; rfl))
  ))
theorem b7j (b own h : DS) (i : Nat) (hi : i < 1000) (hs : 0 <= b.st /\ b.st <= 1000000) : Runs Tryd.prog 69 [aD b, aD own, .val (.int .i64 ((i : Int) + 1)), aD h] [] (Det (aD (b92 b own i h)) []) := by
 refine Runs.mk a1a Tryd.call69 Tryd.func69 rfl Tryd.ntmps69 Tryd.results69 rfl ?_
 (repeat' (first
  | refine SP ?_
  | (apply a0g <;> intro hb <;> (try simp only [nS, nT, eq_self, reduceCtorEq] at hb) <;> (try (exfalso; omega)))
  | refine a0l ?_
  | (apply a04 []; (focus (iterate 2 (all_goals (repeat' (first | exact a0c | exact trivial | refine And.intro ?_ ?_ | refine a0b ?_ ?_ | refine a0o ?_ | exact a0a _ _ | refine a0r ?_ ))))); any_goals (apply a0h; rfl))
  ))
 all_goals exact c04 (by omega) (by omega)
theorem b84 (i b : Int) : Runs Tryd.prog 68 [.val (.int .i64 i), .ptr 0 1 0 0] [.var [.val (.int .i64 b)]] (Det (.sb (decide (i = b))) [.var [.val (.int .i64 b)]]) := by
 refine Runs.mk a1a Tryd.call68 Tryd.func68 rfl Tryd.ntmps68 Tryd.results68 rfl ?_
 (repeat' (first
  | refine SP ?_
  | (apply a04 [some 0]; (focus (iterate 2 (all_goals (repeat' (first | exact a0c | exact trivial | refine SP ?_ | refine And.intro ?_ ?_ | refine a0b ?_ ?_ | refine a0n ?_ | exact a0a _ _ | exact a1j rfl ))))); any_goals (apply a0h; rfl))
  ))
 all_goals first | rfl | fail
def b8r (own : DS) (ps : List (Option DS)) : Nat -> List Int
 | 0 => []
 | x + 1 => b8r own ps x ++ [a7t own ps x]
theorem a7x (own : DS) (ps : List (Option DS)) : ∀ x, (b8r own ps x).length = x
 | 0 => rfl
 | x + 1 => by rw [b8r, List.length_append, a7x own ps x]; rfl
theorem a9j (own : DS) (ps : List (Option DS)) : ∀ x y, y < x -> (b8r own ps x).getD y 0 = a7t own ps y
 | 0, y, h => by omega
 | x + 1, y, h => by
  rw [b8r, List.getD_eq_getElem?_getD]
  have hl := a7x own ps x
  by_cases hy : y < x
  ·rw [List.getElem?_append_left (by omega), <- List.getD_eq_getElem?_getD, a9j own ps x y hy]
  ·have : y = x := by omega
   subst this
   rw [List.getElem?_append_right (by omega), hl, Nat.sub_self]; rfl
abbrev b5y (own : DS) (ps : List (Option DS)) : List Int := b8r own ps ps.length
theorem c7i {b own h : DS} {i : Nat} (hb : wfD b) (ho : wfD own) (hh : wfD h) (hi : i < 1000) (hs : 0 <= b.st /\ b.st <= 1000000) : wfD (b92 b own i h) := by
 obtain ⟨h0, h1, h2, h3, h4, h5, h6, h7, h8, h9, h10⟩ := hb
 refine ⟨h0, h1, h2, h3, h4, h5, ?_, ho.se, ?_, hh.re, ?_⟩
 ·show inI (b.st + 1); unfold inI; omega
 ·show inI ((i : Int) + 1); unfold inI; omega
 ·show inI ((i : Int) + 1); unfold inI; omega
set_option maxHeartbeats 4000000 in
theorem b3g (own : DS) (ps : List (Option DS)) (cap : Option Nat) (hn : ps.length <= 8) (hw : wfP ps) (ho : wfD own) (hcl : 127 < own.cl) :
  Runs Tryd.prog 44 [aD own, .sl 0 12 0 ps.length cap] [pB ps] (Det (.tup [.sl 1 1 0 ps.length none, .val (.int .i64 0)]) [pB ps, iB true (b5y own ps)]) := by
 have hle := c28 ps cap (by omega) hw
 obtain ⟨b0, b1⟩ := b9t ps ps.length
 rw [show bst ps ps.length = a56 ps from rfl] at b0 b1
 have hcl2 := a7x own ps
 refine Runs.mk a1a Tryd.call44 Tryd.func44 rfl Tryd.ntmps44 Tryd.results44 rfl ?_
 (repeat' (first
  | refine SP ?_
  | (apply a0g <;> intro hb <;> (try simp only [nS, nT, eq_self, reduceCtorEq] at hb) <;> (try (exfalso; omega)))
  | refine a0l ?_
  | refine OB ?_
  | ((first | apply a1y (hle) ); (focus (iterate 2 (all_goals (repeat' (first | exact a0c | exact trivial | refine SP ?_ | refine And.intro ?_ ?_ | refine a0b ?_ ?_ | exact a0i rfl rfl rfl | exact a0f rfl rfl rfl ))))); (try (any_goals fail)))
  ))
 refine a00 (σ := Nat) (fun x => x <= ps.length) (fun x => ⟨[(1, .sl 0 12 0 ps.length cap), (2, .ptr 1 11 0 0), (6, .ptr 2 1 0 0), (7, .fn (.func 68) [.ptr 2 1 0 0]), (8, .sl 3 1 0 x none), (21, .sl 0 12 0 ps.length cap), (22, .val (.int .i64 ps.length)), (23, .val (.int .i64 x))], [pB ps, .var (dC own), .var [.val (.int .i64 (a56 ps))], iB true (b8r own ps x)]⟩) (fun x => ps.length - x) (0) ?_ ?_ ?_
 ·omega
 ·(apply a0t [some 0, some 1, some 2, some 3]; (focus (iterate 2 (all_goals (repeat' (first | exact a0c | exact trivial | refine SP ?_ | refine And.intro ?_ ?_ | refine a0b ?_ ?_ | refine a2z ?_ | refine a0n ?_ | exact a0d rfl rfl | exact a0i rfl rfl rfl | exact a0a _ _ | exact a0f rfl rfl rfl ))))); any_goals (apply a0h; rfl))
  all_goals exact c3t (L' := []) c1k rfl rfl
 rintro x hx
 have hlx := hcl2 x
 have hsx : b8r own ps (x + 1) = b8r own ps x ++ [a7t own ps x] := rfl
 by_cases hxl : x < ps.length
 ·have hz : 0 + Int.toNat (x : Int) = x := by omega
  generalize b8r own ps x = C at *
  cases hS : a5l own ps
  ·have hS' := hS
   unfold a5l at hS'
   rw [Bool.or_eq_false_iff, decide_eq_false_iff_not] at hS'
   obtain ⟨s1, s2⟩ := hS'
   have hl1 := b0l own (a3g ps (a56 ps).toNat) ho (hw _).1
   rw [s2] at hl1
   have hwf := c7i (i := x) (hw (a56 ps).toNat).1 ho (hw x).1 (by omega) (hw (a56 ps).toNat).2
   have hfu := b7j (a3g ps (a56 ps).toNat) own (a3g ps x) x (by omega) (hw _).2
   have hl2 := b0l _ (a3g ps x) hwf (hw x).1
   have hco : a7t own ps x = if (x : Int) = a56 ps then 6 else if a55 ps x = false \/ a2e (b92 (a3g ps (a56 ps).toNat) own x (a3g ps x)) (a3g ps x) = true then 3 else 5 := by
    unfold a7t; rw [if_neg (by rw [hS]; simp)]
   have hib := b84 x (a56 ps)
   by_cases hxb : (x : Int) = a56 ps
   ·rw [if_pos hxb] at hco
    rw [hco] at hsx
    rw [decide_eq_true hxb] at hib
    clear hl2 hfu hwf hco
    generalize a56 ps = b at *
    rw [<- Nat.zero_add b.toNat] at hl1
    (repeat' (first
  | refine SP ?_
  | (with_reducible refine a4m ?_)
  | (with_reducible refine a1k ?_)
  | (apply a0g <;> intro hb <;> (try simp only [nS, nT, eq_self, reduceCtorEq] at hb) <;> (try (exfalso; omega)))
  | refine a0u (by decide +kernel) ?_
  | refine a0l ?_
  | refine OB ?_
  | ((first | apply a1o (hl1)); (focus ((iterate 2 (all_goals (repeat' (first | exact a0c | refine a0b ?_ ?_ | refine a0o ?_ | exact a0a _ _ )))); done)))
  | ((first | apply a1y (hib) ); (focus (iterate 2 (all_goals (repeat' (first | exact a0c | exact trivial | refine SP ?_ | refine And.intro ?_ ?_ | refine a0b ?_ ?_ | refine a0n ?_ | exact a0d rfl rfl | exact a0a _ _ ))))); (try (any_goals fail)))
  | (apply a0m (Subtype.mk (x + 1) (by first | omega | (simp only; omega))); (focus (rw [hsx]; apply a0t [some 0, some 1, some 2, some _]; (focus (iterate 2 (all_goals (repeat' (first | exact a0c | exact trivial | refine SP ?_ | refine And.intro ?_ ?_ | refine a0b ?_ ?_ | refine a2z ?_ | refine a0n ?_ | exact a0d rfl rfl | exact a0i rfl rfl rfl | exact a0a _ _ | exact a0f rfl rfl rfl | ((first | refine a0r ?_ | show (_ : Nat) = _); first | with_reducible rfl | omega | ((try simp only [wS]); omega) | rfl) | apply a1l | refine a0y ?_ ?_ | exact a2o | with_reducible rfl ))))); any_goals (apply a0h; rfl))); (all_goals (try (first | (simp only; omega)))))
  ))
   ·rw [if_neg hxb] at hco
    rw [decide_eq_false hxb] at hib
    cases hc : a55 ps x
    ·rw [if_pos (.inl hc)] at hco
     rw [hco] at hsx
     have hh : (ps.getD (0 + Int.toNat (x : Int)) none).isSome = false := by rw [hz]; exact hc
     clear hl2 hfu hwf hco
     generalize a56 ps = b at *
     rw [<- Nat.zero_add b.toNat] at hl1
     (repeat' (first
  | refine SP ?_
  | (with_reducible refine a1k ?_)
  | (apply a0g <;> intro hb <;> (try simp only [nS, nT, eq_self, reduceCtorEq] at hb) <;> (try (exfalso; (first | omega | (rw [hh] at hb; cases hb)); done)))
  | refine a0u (by decide +kernel) ?_
  | refine a0l ?_
  | refine OB ?_
  | ((first | apply a1o (hl1)); (focus ((iterate 2 (all_goals (repeat' (first | exact a0c | refine a0b ?_ ?_ | refine a0o ?_ | exact a0a _ _ )))); done)))
  | ((first | apply a1y (hib) ); (focus (iterate 2 (all_goals (repeat' (first | exact a0c | exact trivial | refine SP ?_ | refine And.intro ?_ ?_ | refine a0b ?_ ?_ | refine a0n ?_ | exact a0d rfl rfl | exact a0a _ _ ))))); (try (any_goals fail)))
  | (apply a0m (Subtype.mk (x + 1) (by first | omega | (simp only; omega))); (focus (rw [hsx]; apply a0t [some 0, some 1, some 2, some _]; (focus (iterate 2 (all_goals (repeat' (first | exact a0c | exact trivial | refine SP ?_ | refine And.intro ?_ ?_ | refine a0b ?_ ?_ | refine a2z ?_ | refine a0n ?_ | exact a0d rfl rfl | exact a0i rfl rfl rfl | exact a0a _ _ | exact a0f rfl rfl rfl | ((first | refine a0r ?_ | show (_ : Nat) = _); first | with_reducible rfl | omega | ((try simp only [wS]); omega) | rfl) | apply a1l | refine a0y ?_ ?_ | exact a2o | with_reducible rfl ))))); any_goals (apply a0h; rfl))); (all_goals (try (first | (simp only; omega)))))
  ))
    ·have hh : (ps.getD (0 + Int.toNat (x : Int)) none).isSome = true := by rw [hz]; exact hc
     cases hd : a2e (b92 (a3g ps (a56 ps).toNat) own x (a3g ps x)) (a3g ps x)
     ·rw [if_neg (by rw [hc, hd]; simp)] at hco
      rw [hco] at hsx
      rw [hd] at hl2
      clear hwf hco hd
      generalize a56 ps = b at *
      have hfu' : Runs Tryd.prog 69 [aD (a3g ps (0 + b.toNat)), aD own, .val (.int .i64 ((x : Int) + 1)), aD (a3g ps (0 + Int.toNat (x : Int)))] [] (Det (aD (b92 (a3g ps b.toNat) own x (a3g ps x))) []) := by rw [hz, Nat.zero_add]; exact hfu
      clear hfu
      generalize b92 (a3g ps b.toNat) own x (a3g ps x) = F at *
      rw [<- Nat.zero_add b.toNat] at hl1
      rw [<- hz] at hl2
      (repeat' (first
  | refine SP ?_
  | (with_reducible refine a1k ?_)
  | (apply a0g <;> intro hb <;> (try simp only [nS, nT, eq_self, reduceCtorEq] at hb) <;> (try (exfalso; (first | omega | (rw [hh] at hb; cases hb)); done)))
  | refine a0u (by decide +kernel) ?_
  | refine a0l ?_
  | refine OB ?_
  | ((first | apply a1o (hl1)); (focus ((iterate 2 (all_goals (repeat' (first | exact a0c | refine a0b ?_ ?_ | refine a0o ?_ | exact a0a _ _ | refine a0r ?_ )))); done)))
  | ((first | apply a1y (hib) ); (focus (iterate 2 (all_goals (repeat' (first | exact a0c | exact trivial | refine SP ?_ | refine And.intro ?_ ?_ | refine a0b ?_ ?_ | refine a0n ?_ | exact a0d rfl rfl | exact a0a _ _ ))))); (try (any_goals fail)))
  | ((first | apply a1o (hfu')); (focus ((iterate 2 (all_goals (repeat' (first | exact a0c | refine a0b ?_ ?_ | refine a0o ?_ | exact a0a _ _ | ((refine a0r ?_); first | with_reducible rfl | omega | ((try simp only [wS]); omega) | rfl) )))); done)))
  | ((first | apply a1o (hl2)); (focus ((iterate 2 (all_goals (repeat' (first | exact a0c | refine a0b ?_ ?_ | refine a0o ?_ | exact a0a _ _ )))); done)))
  | (apply a0m (Subtype.mk (x + 1) (by first | omega | (simp only; omega))); (focus (rw [hsx]; apply a0t [some 0, some 1, some 2, some _]; (focus (iterate 2 (all_goals (repeat' (first | exact a0c | exact trivial | refine SP ?_ | refine And.intro ?_ ?_ | refine a0b ?_ ?_ | refine a2z ?_ | refine a0n ?_ | exact a0d rfl rfl | exact a0i rfl rfl rfl | exact a0a _ _ | exact a0f rfl rfl rfl | ((first | refine a0r ?_ | show (_ : Nat) = _); first | with_reducible rfl | omega | ((try simp only [wS]); omega) | rfl) | apply a1l | refine a0y ?_ ?_ | exact a2o | with_reducible rfl ))))); any_goals (apply a0h; rfl))); (all_goals (try (first | (simp only; omega)))))
  ))
     ·rw [if_pos (.inr hd)] at hco
      rw [hco] at hsx
      rw [hd] at hl2
      clear hwf hco hd
      generalize a56 ps = b at *
      have hfu' : Runs Tryd.prog 69 [aD (a3g ps (0 + b.toNat)), aD own, .val (.int .i64 ((x : Int) + 1)), aD (a3g ps (0 + Int.toNat (x : Int)))] [] (Det (aD (b92 (a3g ps b.toNat) own x (a3g ps x))) []) := by rw [hz, Nat.zero_add]; exact hfu
      clear hfu
      generalize b92 (a3g ps b.toNat) own x (a3g ps x) = F at *
      rw [<- Nat.zero_add b.toNat] at hl1
      rw [<- hz] at hl2
      (repeat' (first
  | refine SP ?_
  | (with_reducible refine a4m ?_)
  | (with_reducible refine a1k ?_)
  | (apply a0g <;> intro hb <;> (try simp only [nS, nT, eq_self, reduceCtorEq] at hb) <;> (try (exfalso; (first | omega | (rw [hh] at hb; cases hb)); done)))
  | refine a0u (by decide +kernel) ?_
  | refine a0l ?_
  | refine OB ?_
  | ((first | apply a1o (hl1)); (focus ((iterate 2 (all_goals (repeat' (first | exact a0c | refine a0b ?_ ?_ | refine a0o ?_ | exact a0a _ _ | refine a0r ?_ )))); done)))
  | ((first | apply a1y (hib) ); (focus (iterate 2 (all_goals (repeat' (first | exact a0c | exact trivial | refine SP ?_ | refine And.intro ?_ ?_ | refine a0b ?_ ?_ | refine a0n ?_ | exact a0d rfl rfl | exact a0a _ _ ))))); (try (any_goals fail)))
  | ((first | apply a1o (hfu')); (focus ((iterate 2 (all_goals (repeat' (first | exact a0c | refine a0b ?_ ?_ | refine a0o ?_ | exact a0a _ _ | ((refine a0r ?_); first | with_reducible rfl | omega | ((try simp only [wS]); omega) | rfl) )))); done)))
  | ((first | apply a1o (hl2)); (focus ((iterate 2 (all_goals (repeat' (first | exact a0c | refine a0b ?_ ?_ | refine a0o ?_ | exact a0a _ _ )))); done)))
  | (apply a0m (Subtype.mk (x + 1) (by first | omega | (simp only; omega))); (focus (rw [hsx]; apply a0t [some 0, some 1, some 2, some _]; (focus (iterate 2 (all_goals (repeat' (first | exact a0c | exact trivial | refine SP ?_ | refine And.intro ?_ ?_ | refine a0b ?_ ?_ | refine a2z ?_ | refine a0n ?_ | exact a0d rfl rfl | exact a0i rfl rfl rfl | exact a0a _ _ | exact a0f rfl rfl rfl | ((first | refine a0r ?_ | show (_ : Nat) = _); first | with_reducible rfl | omega | ((try simp only [wS]); omega) | rfl) | apply a1l | refine a0y ?_ ?_ | exact a2o | with_reducible rfl ))))); any_goals (apply a0h; rfl))); (all_goals (try (first | (simp only; omega)))))
  ))
  ·have hco : a7t own ps x = 2 := by unfold a7t; rw [if_pos hS]
   rw [hco] at hsx
   unfold a5l at hS
   rw [Bool.or_eq_true, decide_eq_true_eq] at hS
   by_cases hb0 : a56 ps < 0
   ·clear hS hco
    generalize a56 ps = b at *
    (repeat' (first
  | refine SP ?_
  | (apply a0g <;> intro hb <;> (try simp only [nS, nT, eq_self, reduceCtorEq] at hb) <;> (try (exfalso; omega)))
  | refine a0u (by decide +kernel) ?_
  | refine a0l ?_
  | refine OB ?_
  | (apply a0m (Subtype.mk (x + 1) (by first | omega | (simp only; omega))); (focus (rw [hsx]; apply a0t [some 0, some 1, some 2, some _]; (focus (iterate 2 (all_goals (repeat' (first | exact a0c | exact trivial | refine SP ?_ | refine And.intro ?_ ?_ | refine a0b ?_ ?_ | refine a2z ?_ | refine a0n ?_ | exact a0d rfl rfl | exact a0i rfl rfl rfl | exact a0a _ _ | exact a0f rfl rfl rfl | ((first | refine a0r ?_ | show (_ : Nat) = _); first | with_reducible rfl | omega | ((try simp only [wS]); omega) | rfl) | apply a1l | refine a0y ?_ ?_ | exact a2o | with_reducible rfl ))))); any_goals (apply a0h; rfl))); (all_goals (try (first | (simp only; omega)))))
  ))
   ·have s2 := hS.resolve_left hb0
    have hl1 := b0l own (a3g ps (a56 ps).toNat) ho (hw _).1
    rw [s2] at hl1
    clear hS hco s2
    generalize a56 ps = b at *
    rw [<- Nat.zero_add b.toNat] at hl1
    (repeat' (first
  | refine SP ?_
  | (with_reducible refine a4m ?_)
  | (apply a0g <;> intro hb <;> (try simp only [nS, nT, eq_self, reduceCtorEq] at hb) <;> (try (exfalso; omega)))
  | refine a0u (by decide +kernel) ?_
  | refine a0l ?_
  | refine OB ?_
  | ((first | apply a1o (hl1)); (focus ((iterate 2 (all_goals (repeat' (first | exact a0c | refine a0b ?_ ?_ | refine a0o ?_ | exact a0a _ _ )))); done)))
  | (apply a0m (Subtype.mk (x + 1) (by first | omega | (simp only; omega))); (focus (rw [hsx]; apply a0t [some 0, some 1, some 2, some _]; (focus (iterate 2 (all_goals (repeat' (first | exact a0c | exact trivial | refine SP ?_ | refine And.intro ?_ ?_ | refine a0b ?_ ?_ | refine a2z ?_ | refine a0n ?_ | exact a0d rfl rfl | exact a0i rfl rfl rfl | exact a0a _ _ | exact a0f rfl rfl rfl | ((first | refine a0r ?_ | show (_ : Nat) = _); first | with_reducible rfl | omega | ((try simp only [wS]); omega) | rfl) | apply a1l | refine a0y ?_ ?_ | exact a2o | with_reducible rfl ))))); any_goals (apply a0h; rfl))); (all_goals (try (first | (simp only; omega)))))
  ))
 ·have hx' : x = ps.length := by omega
  subst hx'
  (repeat' (first
  | refine SP ?_
  | (apply a0g <;> intro hb <;> (try simp only [nS, nT, eq_self, reduceCtorEq] at hb) <;> (try (exfalso; omega)))
  | (apply a04 [some 0, some 3]; (focus (iterate 2 (all_goals (repeat' (first | exact a0c | exact trivial | refine SP ?_ | refine And.intro ?_ ?_ | refine a0b ?_ ?_ | refine a3m ?_ | exact a0i rfl rfl rfl | exact a0a _ _ | exact a0f rfl rfl rfl ))))); any_goals (apply a0h; rfl))
  ))
end Go.Vx.L42

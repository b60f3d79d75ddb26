/- Lemmas of a small executor for the model, and contracts of functions, used for the law that this claim proves. No condition. -/
set_option linter.unusedSimpArgs false
set_option linter.unusedVariables false
/- Plain law of the election: data sets, what a node follows, a round, and where the rounds lead. No program in sight. -/
namespace Go.Vx.L58
structure DS where
 p1 : Int
 cl : Int
 ac : Int
 va : Int
 p2 : Int
 gm : Int
 st : Int
 se : Int
 sp : Int
 re : Int
 rp : Int
 deriving DecidableEq, Inhabited
def DS.mk6 (d : DS) : List Int := [d.p1, d.cl, d.ac, d.va, d.p2, d.gm]
def DS.tl5 (d : DS) : List Int := [d.st, d.se, d.sp, d.re, d.rp]
def DS.ks (d : DS) : List Int := d.mk6 ++ d.tl5
def lexB : List Int → List Int → Bool
 | a :: x, b :: y => if a < b then true else if b < a then false else lexB x y
 | _, _ => false
def lessD (a b : DS) : Bool := lexB a.ks b.ks
theorem lexB_irr : ∀ a : List Int, lexB a a = false
 | [] => rfl
 | a :: x => by simp [lexB, lexB_irr x]
theorem lexB_trans : ∀ {a b c : List Int}, lexB a b = true → lexB b c = true → lexB a c = true
 | [], _, _, h, _ => by simp [lexB] at h
 | a :: x, [], _, h, _ => by simp [lexB] at h
 | a :: x, b :: y, [], _, h => by simp [lexB] at h
 | a :: x, b :: y, c :: z, h, g => by
  simp only [lexB] at h g ⊢
  by_cases h1 : a < b
  ·by_cases g1 : b < c
   ·rw [if_pos (by omega)]
   ·rw [if_neg g1] at g
    by_cases g2 : c < b
    ·rw [if_pos g2] at g; cases g
    ·rw [if_pos (by omega)]
  ·rw [if_neg h1] at h
   by_cases h2 : b < a
   ·rw [if_pos h2] at h; cases h
   ·rw [if_neg h2] at h
    by_cases g1 : b < c
    ·rw [if_pos (by omega)]
    ·rw [if_neg g1] at g
     by_cases g2 : c < b
     ·rw [if_pos g2] at g; cases g
     ·rw [if_neg g2] at g
      rw [if_neg (by omega), if_neg (by omega)]
      exact lexB_trans h g
theorem lessD_trans {a b c : DS} (h : lessD a b = true) (g : lessD b c = true) : lessD a c = true := lexB_trans h g
theorem lessD_irr (a : DS) : lessD a a = false := lexB_irr _
/-! What a clock follows. -/
abbrev dsAt (ps : List (Option DS)) (i : Nat) : DS := (ps.getD i none).getD default
abbrev hasAt (ps : List (Option DS)) (i : Nat) : Bool := (ps.getD i none).isSome
/-- The best of the first x ports. -/
def bst (ps : List (Option DS)) : Nat → Int
 | 0 => -1
 | x + 1 => if hasAt ps x = true ∧ (bst ps x < 0 ∨ lessD (dsAt ps x) (dsAt ps (bst ps x).toNat) = true) then (x : Int) else bst ps x
theorem bst_spec (ps : List (Option DS)) : ∀ x, (bst ps x = -1 ∧ ∀ i, i < x → hasAt ps i = false) ∨ ((0 ≤ bst ps x ∧ bst ps x < x) ∧ hasAt ps (bst ps x).toNat = true ∧ ∀ i, i < x → hasAt ps i = true → lessD (dsAt ps i) (dsAt ps (bst ps x).toNat) = false)
 | 0 => .inl ⟨rfl, fun i h => by omega⟩
 | x + 1 => by
  have ih := bst_spec ps x
  by_cases h : hasAt ps x = true ∧ (bst ps x < 0 ∨ lessD (dsAt ps x) (dsAt ps (bst ps x).toNat) = true)
  ·have e : bst ps (x + 1) = x := by simp only [bst]; rw [if_pos h]
   rw [e]
   refine .inr ⟨by omega, by simpa using h.1, fun i hi hh => ?_⟩
   rw [Int.toNat_natCast]
   by_cases hix : i = x
   ·rw [hix, lessD_irr]
   ·rcases ih with ⟨e1, e2⟩ | ⟨e1, e2, e3⟩
    ·have := e2 i (by omega); rw [hh] at this; cases this
    ·rcases h.2 with h2 | h2
     ·omega
     ·have h3 := e3 i (by omega) hh
      cases hc : lessD (dsAt ps i) (dsAt ps x)
      ·rfl
      ·rw [lessD_trans hc h2] at h3; cases h3
  ·have e : bst ps (x + 1) = bst ps x := by simp only [bst]; rw [if_neg h]
   rw [e]
   rcases ih with ⟨e1, e2⟩ | ⟨e1, e2, e3⟩
   ·refine .inl ⟨e1, fun i hi => ?_⟩
    by_cases hix : i = x
    ·subst hix
     cases hc : hasAt ps i
     ·rfl
     ·exact absurd ⟨hc, .inl (by omega)⟩ h
    ·exact e2 i (by omega)
   ·refine .inr ⟨by omega, e2, fun i hi hh => ?_⟩
    by_cases hix : i = x
    ·subst hix
     cases hc : lessD (dsAt ps i) (dsAt ps (bst ps i).toNat)
     ·rfl
     ·exact absurd ⟨hh, .inr hc⟩ h
    ·exact e3 i (by omega) hh
/-- The best set as it is taken further over the port i. -/
def furD (b own : DS) (i : Nat) (h : DS) : DS := { b with st := b.st + 1, se := own.se, sp := i + 1, rp := i + 1, re := h.re }
def bstL (ps : List (Option DS)) : Int := bst ps ps.length
/-- The clock follows itself. -/
def selfD (own : DS) (ps : List (Option DS)) : Bool := decide (bstL ps < 0) || lessD own (dsAt ps (bstL ps).toNat)
def codD (own : DS) (ps : List (Option DS)) (i : Nat) : Int :=
 if selfD own ps = true then 2 else if (i : Int) = bstL ps then 6 else
  if hasAt ps i = false ∨ lessD (furD (dsAt ps (bstL ps).toNat) own i (dsAt ps i)) (dsAt ps i) = true then 3 else 5
def folD (own : DS) (ps : List (Option DS)) : DS := if selfD own ps = true then own else dsAt ps (bstL ps).toNat
/-! A network, and its rounds. -/
/-- What port p of node x remembers: how old it is, and the data set. -/
abbrev Mem := Nat → Nat → Option (Int × DS)
structure NetP where
 n : Nat
 id : Nat → Int
 ow : Nat → DS
 pe : Nat → Nat → Option (Nat × Nat)
structure NetP.OK (G : NetP) : Prop where
 pe_ok : ∀ x p y q, G.pe x p = some (y, q) → (x < G.n ∧ y < G.n) ∧ (1 ≤ p ∧ p ≤ 8) ∧ (1 ≤ q ∧ q ≤ 8) ∧ x ≠ y ∧ G.pe y q = some (x, p)
 gm : ∀ x, (G.ow x).gm = G.id x
 st : ∀ x, (G.ow x).st = 0
 rp : ∀ x, (G.ow x).rp = 0
 inj : ∀ x y, x < G.n → y < G.n → G.id x = G.id y → x = y
def hrd (M : Mem) (x : Nat) : List (Option DS) := (List.range 8).map fun i => (M x (i + 1)).map (·.2)
def NetP.fol (G : NetP) (M : Mem) (x : Nat) : DS := folD (G.ow x) (hrd M x)
def NetP.cod (G : NetP) (M : Mem) (x i : Nat) : Int := codD (G.ow x) (hrd M x) i
def ann (c : Int) : Bool := decide (c = 1) || decide (c = 2) || decide (c = 3)
/-- What node x sends from its port p to port q of node y. -/
def NetP.snd (G : NetP) (M : Mem) (x p y q : Nat) : Option DS :=
 if ann (G.cod M x (p - 1)) = true then
  if G.fol M x = G.ow x then some { G.ow x with se := G.id x, sp := p, re := G.id y, rp := q }
  else if (G.fol M x).st + 1 < 32 then some { G.fol M x with st := (G.fol M x).st + 1, se := G.id x, sp := p, re := G.id y, rp := q } else none
 else none
def NetP.rnd (G : NetP) (M : Mem) : Mem := fun x p => match G.pe x p with
 | none => none
 | some (y, q) => match G.snd M y q x p with
  | some d => some (0, d)
  | none => match M x p with
   | none => none
   | some (a, d) => if a + 1 < 3 then some (a + 1, d) else none
def NetP.run (G : NetP) (M : Mem) : Nat → Mem
 | 0 => M
 | t + 1 => G.rnd (G.run M t)
/-! Distances. -/
end Go.Vx.L58

/- Lemmas of a small executor for the model, and contracts of functions, used for the law that this claim proves. No condition. -/
import Derived.Test.YtodbfpjjahpahaaGreatDoorEW3
import Derived.Test.YtodbfpjjahpahaaGreatDoorET58
import Derived.Handy
set_option linter.unusedSimpArgs false
set_option linter.unusedVariables false
namespace Go.Vx.L58
structure DS where
 p1 : Int
 cl : Int
 ac : Int
 va : Int
 p2 : Int
 gm : Int
 st : Int
 se : Int
 sp : Int
 re : Int
 rp : Int
 deriving DecidableEq, Inhabited
def DS.mk6 (d : DS) : List Int := [d.p1, d.cl, d.ac, d.va, d.p2, d.gm]
def DS.tl5 (d : DS) : List Int := [d.st, d.se, d.sp, d.re, d.rp]
def DS.ks (d : DS) : List Int := d.mk6 ++ d.tl5
def lexB : List Int -> List Int -> Bool
 | a :: x, b :: y => if a < b then true else if b < a then false else lexB x y
 | _, _ => false
def a1r (a b : DS) : Bool := lexB a.ks b.ks
theorem a4m : ∀ a : List Int, lexB a a = false
 | [] => rfl
 | a :: x => by simp [lexB, a4m x]
theorem a6f : ∀ {a b c : List Int}, lexB a b = true -> lexB b c = true -> lexB a c = true
 | [], _, _, h, _ => by simp [lexB] at h
 | a :: x, [], _, h, _ => by simp [lexB] at h
 | a :: x, b :: y, [], _, h => by simp [lexB] at h
 | a :: x, b :: y, c :: z, h, g => by
  simp only [lexB] at h g ⊢
  by_cases h1 : a < b
  ·by_cases g1 : b < c
   ·rw [if_pos (by omega)]
   ·rw [if_neg g1] at g
    by_cases g2 : c < b
    ·rw [if_pos g2] at g; cases g
    ·rw [if_pos (by omega)]
  ·rw [if_neg h1] at h
   by_cases h2 : b < a
   ·rw [if_pos h2] at h; cases h
   ·rw [if_neg h2] at h
    by_cases g1 : b < c
    ·rw [if_pos (by omega)]
    ·rw [if_neg g1] at g
     by_cases g2 : c < b
     ·rw [if_pos g2] at g; cases g
     ·rw [if_neg g2] at g
      rw [if_neg (by omega), if_neg (by omega)]
      exact a6f h g
theorem a6p : ∀ {a b : List Int}, a.length = b.length -> lexB a b = false -> lexB b a = false -> a = b
 | [], [], _, _, _ => rfl
 | [], _ :: _, h, _, _ => by simp at h
 | _ :: _, [], h, _, _ => by simp at h
 | a :: x, b :: y, hl, h, g => by
  simp only [lexB] at h g
  by_cases h1 : a < b
  ·rw [if_pos h1] at h; cases h
  ·rw [if_neg h1] at h
   by_cases h2 : b < a
   ·rw [if_pos h2] at g; cases g
   ·rw [if_neg h2] at h
    rw [if_neg h2, if_neg h1] at g
    rw [show a = b by omega, a6p (by simpa using hl) h g]
theorem a9m : ∀ {a b x y : List Int}, a.length = b.length -> lexB (a ++ x) (b ++ y) = if lexB a b = true then true else if lexB b a = true then false else lexB x y
 | [], [], x, y, _ => by simp [lexB]
 | [], _ :: _, _, _, h => by simp at h
 | _ :: _, [], _, _, h => by simp at h
 | a :: u, b :: v, x, y, hl => by
  have ih := a9m (a := u) (b := v) (x := x) (y := y) (by simpa using hl)
  simp only [List.cons_append, lexB]
  by_cases h1 : a < b
  ·simp [h1]
  ·by_cases h2 : b < a
   ·simp [h1, h2]
   ·simp only [if_neg h1, if_neg h2]; exact ih
def ltM (a b : DS) : Bool := lexB a.mk6 b.mk6
theorem a4e {a b : DS} (h : ltM a b = true) : a1r a b = true := by
 unfold ltM at h
 unfold a1r DS.ks; rw [a9m (a := a.mk6) (b := b.mk6) rfl, if_pos h]
theorem a43 {a b : DS} (h : ltM b a = true) : a1r a b = false := by
 unfold ltM at h
 unfold a1r DS.ks; rw [a9m (a := a.mk6) (b := b.mk6) rfl]
 have : lexB a.mk6 b.mk6 ≠ true := fun g => by
  have := a6f g h; rw [a4m] at this; cases this
 rw [if_neg this, if_pos h]
theorem a74 {a b : DS} (h : a.mk6 = b.mk6) (hs : a.st < b.st) : a1r a b = true := by
 unfold a1r DS.ks; rw [a9m (a := a.mk6) (b := b.mk6) rfl, h, a4m, if_neg (by simp), if_neg (by simp)]
 simp [DS.tl5, lexB, hs]
theorem b9v {a b : DS} (h : a1r a b = false) : ltM b a = true \/ (a.mk6 = b.mk6 /\ b.st <= a.st) := by
 by_cases h1 : ltM b a = true
 ·exact .inl h1
 ·by_cases h2 : ltM a b = true
  ·rw [a4e h2] at h; cases h
  ·have e : a.mk6 = b.mk6 := a6p rfl (by simpa [ltM] using h2) (by simpa [ltM] using h1)
   refine .inr ⟨e, ?_⟩
   by_cases h3 : a.st < b.st
   ·rw [a74 e h3] at h; cases h
   ·omega
theorem b6i {a b c : DS} (h : a1r a b = true) (g : a1r b c = true) : a1r a c = true := a6f h g
theorem b4b (a : DS) : a1r a a = false := a4m _
abbrev a1p (ps : List (Option DS)) (i : Nat) : DS := (ps.getD i none).getD default
abbrev a3x (ps : List (Option DS)) (i : Nat) : Bool := (ps.getD i none).isSome
def bst (ps : List (Option DS)) : Nat -> Int
 | 0 => -1
 | x + 1 => if a3x ps x = true /\ (bst ps x < 0 \/ a1r (a1p ps x) (a1p ps (bst ps x).toNat) = true) then (x : Int) else bst ps x
theorem a9c (ps : List (Option DS)) : ∀ x, (bst ps x = -1 /\ ∀ i, i < x -> a3x ps i = false) \/ ((0 <= bst ps x /\ bst ps x < x) /\ a3x ps (bst ps x).toNat = true /\ ∀ i, i < x -> a3x ps i = true -> a1r (a1p ps i) (a1p ps (bst ps x).toNat) = false)
 | 0 => .inl ⟨rfl, fun i h => by omega⟩
 | x + 1 => by
  have ih := a9c ps x
  by_cases h : a3x ps x = true /\ (bst ps x < 0 \/ a1r (a1p ps x) (a1p ps (bst ps x).toNat) = true)
  ·have e : bst ps (x + 1) = x := by simp only [bst]; rw [if_pos h]
   rw [e]
   refine .inr ⟨by omega, by simpa using h.1, fun i hi hh => ?_⟩
   rw [Int.toNat_natCast]
   by_cases hix : i = x
   ·rw [hix, b4b]
   ·rcases ih with ⟨e1, e2⟩ | ⟨e1, e2, e3⟩
    ·have := e2 i (by omega); rw [hh] at this; cases this
    ·rcases h.2 with h2 | h2
     ·omega
     ·have h3 := e3 i (by omega) hh
      cases hc : a1r (a1p ps i) (a1p ps x)
      ·rfl
      ·rw [b6i hc h2] at h3; cases h3
  ·have e : bst ps (x + 1) = bst ps x := by simp only [bst]; rw [if_neg h]
   rw [e]
   rcases ih with ⟨e1, e2⟩ | ⟨e1, e2, e3⟩
   ·refine .inl ⟨e1, fun i hi => ?_⟩
    by_cases hix : i = x
    ·subst hix
     cases hc : a3x ps i
     ·rfl
     ·exact absurd ⟨hc, .inl (by omega)⟩ h
    ·exact e2 i (by omega)
   ·refine .inr ⟨by omega, e2, fun i hi hh => ?_⟩
    by_cases hix : i = x
    ·subst hix
     cases hc : a1r (a1p ps i) (a1p ps (bst ps i).toNat)
     ·rfl
     ·exact absurd ⟨hh, .inr hc⟩ h
    ·exact e3 i (by omega) hh
def b2q (b own : DS) (i : Nat) (h : DS) : DS := { b with st := b.st + 1, se := own.se, sp := i + 1, rp := i + 1, re := h.re }
def a2w (ps : List (Option DS)) : Int := bst ps ps.length
def a2u (own : DS) (ps : List (Option DS)) : Bool := decide (a2w ps < 0) || a1r own (a1p ps (a2w ps).toNat)
def a4v (own : DS) (ps : List (Option DS)) (i : Nat) : Int :=
 if a2u own ps = true then 2 else if (i : Int) = a2w ps then 6 else
  if a3x ps i = false \/ a1r (b2q (a1p ps (a2w ps).toNat) own i (a1p ps i)) (a1p ps i) = true then 3 else 5
def a5r (own : DS) (ps : List (Option DS)) : DS := if a2u own ps = true then own else a1p ps (a2w ps).toNat
abbrev Mem := Nat -> Nat -> Option (Int × DS)
structure NetP where
 n : Nat
 id : Nat -> Int
 ow : Nat -> DS
 pe : Nat -> Nat -> Option (Nat × Nat)
structure NetP.OK (G : NetP) : Prop where
 pe_ok : ∀ x p y q, G.pe x p = some (y, q) -> (x < G.n /\ y < G.n) /\ (1 <= p /\ p <= 8) /\ (1 <= q /\ q <= 8) /\ x ≠ y /\ G.pe y q = some (x, p)
 gm : ∀ x, (G.ow x).gm = G.id x
 st : ∀ x, (G.ow x).st = 0
 rp : ∀ x, (G.ow x).rp = 0
 inj : ∀ x y, x < G.n -> y < G.n -> G.id x = G.id y -> x = y
def hrd (M : Mem) (x : Nat) : List (Option DS) := (List.range 8).map fun i => (M x (i + 1)).map (·.2)
def NetP.fol (G : NetP) (M : Mem) (x : Nat) : DS := a5r (G.ow x) (hrd M x)
def NetP.cod (G : NetP) (M : Mem) (x i : Nat) : Int := a4v (G.ow x) (hrd M x) i
def ann (c : Int) : Bool := decide (c = 1) || decide (c = 2) || decide (c = 3)
def NetP.snd (G : NetP) (M : Mem) (x p y q : Nat) : Option DS :=
 if ann (G.cod M x (p - 1)) = true then
  if G.fol M x = G.ow x then some { G.ow x with se := G.id x, sp := p, re := G.id y, rp := q }
  else if (G.fol M x).st + 1 < 32 then some { G.fol M x with st := (G.fol M x).st + 1, se := G.id x, sp := p, re := G.id y, rp := q } else none
 else none
def NetP.rnd (G : NetP) (M : Mem) : Mem := fun x p => match G.pe x p with
 | none => none
 | some (y, q) => match G.snd M y q x p with
  | some d => some (0, d)
  | none => match M x p with
   | none => none
   | some (a, d) => if a + 1 < 3 then some (a + 1, d) else none
def NetP.run (G : NetP) (M : Mem) : Nat -> Mem
 | 0 => M
 | t + 1 => G.rnd (G.run M t)
def NetP.VM (G : NetP) (M : Mem) : Prop := ∀ x p a d, M x p = some (a, d) -> (∃ y q, G.pe x p = some (y, q)) /\ (0 <= a /\ a < 3) /\ (0 <= d.st /\ d.st < 32) /\ d.re = G.id x /\ d.rp = p
theorem a52 (M : Mem) (x : Nat) : (hrd M x).length = 8 := by simp [hrd]
theorem b6u (M : Mem) (x i : Nat) (h : i < 8) : (hrd M x).getD i none = (M x (i + 1)).map (·.2) := by
 simp [hrd, List.getD_eq_getElem?_getD, h]
theorem c40 {M : Mem} {x i : Nat} (hi : i < 8) (h : a3x (hrd M x) i = true) : ∃ a, M x (i + 1) = some (a, a1p (hrd M x) i) := by
 unfold a3x at h; unfold a1p
 rw [b6u M x i hi] at h ⊢
 cases hM : M x (i + 1) with
 | none => rw [hM] at h; cases h
 | some v => exact ⟨v.1, rfl⟩
theorem c1c {M : Mem} {x i : Nat} {a : Int} {d : DS} (hi : i < 8) (h : M x (i + 1) = some (a, d)) : a3x (hrd M x) i = true /\ a1p (hrd M x) i = d := by
 unfold a3x a1p
 rw [b6u M x i hi, h]
 exact ⟨rfl, rfl⟩
theorem b0w (M : Mem) (x : Nat) : (a2w (hrd M x) = -1 /\ ∀ p a d, 1 <= p -> p <= 8 -> M x p ≠ some (a, d)) \/ (∃ b : Nat, a2w (hrd M x) = b /\ b < 8 /\ (∃ a, M x (b + 1) = some (a, a1p (hrd M x) b)) /\ ∀ p a d, 1 <= p -> p <= 8 -> M x p = some (a, d) -> a1r d (a1p (hrd M x) b) = false) := by
 have h := a9c (hrd M x) (hrd M x).length
 rw [show bst (hrd M x) (hrd M x).length = a2w (hrd M x) from rfl, a52] at h
 rcases h with ⟨e1, e2⟩ | ⟨e1, e2, e3⟩
 ·refine .inl ⟨e1, fun p a d h1 h2 hM => ?_⟩
  have := e2 (p - 1) (by omega)
  rw [(c1c (i := p - 1) (by omega) (by rw [show p - 1 + 1 = p by omega]; exact hM)).1] at this
  cases this
 ·obtain ⟨b, hb⟩ := Int.eq_ofNat_of_zero_le e1.1
  rw [hb, Int.toNat_natCast] at e2 e3
  rw [hb] at e1
  refine .inr ⟨b, hb, by omega, c40 (by omega) e2, fun p a d h1 h2 hM => ?_⟩
  obtain ⟨g1, g2⟩ := c1c (i := p - 1) (by omega) (show M x (p - 1 + 1) = some (a, d) by rw [show p - 1 + 1 = p by omega]; exact hM)
  have := e3 (p - 1) (by omega) g1
  rw [g2] at this; exact this
theorem a6c (G : NetP) (M : Mem) (x : Nat) : (a2u (G.ow x) (hrd M x) = true /\ G.fol M x = G.ow x) \/ (a2u (G.ow x) (hrd M x) = false /\ ∃ b : Nat, a2w (hrd M x) = b /\ b < 8 /\ G.fol M x = a1p (hrd M x) b /\ (∃ a, M x (b + 1) = some (a, G.fol M x)) /\ a1r (G.ow x) (G.fol M x) = false /\ ∀ p a d, 1 <= p -> p <= 8 -> M x p = some (a, d) -> a1r d (G.fol M x) = false) := by
 by_cases h : a2u (G.ow x) (hrd M x) = true
 ·exact .inl ⟨h, by unfold NetP.fol a5r; rw [if_pos h]⟩
 ·have h' : a2u (G.ow x) (hrd M x) = false := by simpa using h
  rcases b0w M x with ⟨e1, _⟩ | ⟨b, e1, e2, e3, e4⟩
  ·exact absurd (by unfold a2u; rw [e1]; rfl) h
  ·have ef : G.fol M x = a1p (hrd M x) b := by
    unfold NetP.fol a5r; rw [if_neg h, e1]; rfl
   refine .inr ⟨h', b, e1, e2, ef, by rw [ef]; exact e3, ?_, by rw [ef]; exact e4⟩
   rw [ef]
   unfold a2u at h'
   rw [e1, Int.toNat_natCast, Bool.or_eq_false_iff] at h'
   exact h'.2
theorem b5b {G : NetP} {M : Mem} {x p : Nat} {a : Int} {d : DS} (h : G.rnd M x p = some (a, d)) : ∃ y q, G.pe x p = some (y, q) /\ ((a = 0 /\ G.snd M y q x p = some d) \/ ∃ a', M x p = some (a', d) /\ a = a' + 1 /\ a < 3) := by
 unfold NetP.rnd at h
 cases hp : G.pe x p with
 | none => rw [hp] at h; cases h
 | some yq =>
  obtain ⟨y, q⟩ := yq
  rw [hp] at h
  refine ⟨y, q, rfl, ?_⟩
  dsimp only at h
  cases hs : G.snd M y q x p with
  | some d' =>
   rw [hs] at h
   obtain ⟨rfl, rfl⟩ := Prod.mk.inj (Option.some.inj h)
   exact .inl ⟨rfl, rfl⟩
  | none =>
   rw [hs] at h
   dsimp only at h
   cases hM : M x p with
   | none => rw [hM] at h; cases h
   | some v =>
    rw [hM] at h
    obtain ⟨a', d'⟩ := v
    dsimp only at h
    by_cases hlt : a' + 1 < 3
    ·rw [if_pos hlt] at h
     obtain ⟨rfl, rfl⟩ := Prod.mk.inj (Option.some.inj h)
     exact .inr ⟨a', rfl, rfl, hlt⟩
    ·rw [if_neg hlt] at h; cases h
theorem b5e {G : NetP} {M : Mem} {x p y q : Nat} {d : DS} (h : G.snd M x p y q = some d) : (G.fol M x = G.ow x /\ d = { G.ow x with se := G.id x, sp := (p : Int), re := G.id y, rp := (q : Int) }) \/ (G.fol M x ≠ G.ow x /\ (G.fol M x).st + 1 < 32 /\ d = { G.fol M x with st := (G.fol M x).st + 1, se := G.id x, sp := (p : Int), re := G.id y, rp := (q : Int) }) := by
 unfold NetP.snd at h
 by_cases h1 : ann (G.cod M x (p - 1)) = true
 ·rw [if_pos h1] at h
  by_cases h2 : G.fol M x = G.ow x
  ·rw [if_pos h2] at h; exact .inl ⟨h2, (Option.some.inj h).symm⟩
  ·rw [if_neg h2] at h
   by_cases h3 : (G.fol M x).st + 1 < 32
   ·rw [if_pos h3] at h; exact .inr ⟨h2, h3, (Option.some.inj h).symm⟩
   ·rw [if_neg h3] at h; cases h
 ·rw [if_neg h1] at h; cases h
theorem d3k {G : NetP} (hG : G.OK) {M : Mem} (hM : G.VM M) : G.VM (G.rnd M) := by
 intro x p a d h
 obtain ⟨y, q, hp, hc⟩ := b5b h
 refine ⟨⟨y, q, hp⟩, ?_⟩
 rcases hc with ⟨rfl, hs⟩ | ⟨a', hm, rfl, hlt⟩
 ·rcases b5e hs with ⟨_, rfl⟩ | ⟨hne, hst, rfl⟩
  ·refine ⟨by omega, ?_, rfl, rfl⟩
   show 0 <= (G.ow y).st /\ (G.ow y).st < 32
   rw [hG.st]; omega
  ·rcases a6c G M y with ⟨_, e⟩ | ⟨_, b, _, _, _, ⟨a', hm⟩, _⟩
   ·exact absurd e hne
   ·obtain ⟨_, _, h3, _⟩ := hM _ _ _ _ hm
    refine ⟨by omega, ?_, rfl, rfl⟩
    show 0 <= (G.fol M y).st + 1 /\ (G.fol M y).st + 1 < 32
    omega
 ·obtain ⟨_, h2, h3, h4, h5⟩ := hM _ _ _ _ hm
  exact ⟨by omega, h3, h4, h5⟩
theorem c8h {G : NetP} (hG : G.OK) {M : Mem} (hM : G.VM M) : ∀ t, G.VM (G.run M t)
 | 0 => hM
 | t + 1 => d3k hG (c8h hG hM t)
structure NetP.Dst (G : NetP) (D : Nat -> Nat -> Int) : Prop where
 low : ∀ i y, i < G.n -> y < G.n -> -1 <= D i y
 zero : ∀ i, i < G.n -> D i i = 0
 zeq : ∀ i y, i < G.n -> y < G.n -> D i y = 0 -> y = i
 edge : ∀ i x p y q, i < G.n -> G.pe x p = some (y, q) -> 0 <= D i x -> 0 <= D i y /\ D i y <= D i x + 1
 back : ∀ i x, i < G.n -> x < G.n -> 0 < D i x -> ∃ p y q, G.pe x p = some (y, q) /\ D i y + 1 = D i x
 comp : ∀ i j x, i < G.n -> j < G.n -> x < G.n -> 0 <= D i x -> 0 <= D j x -> 0 <= D i j
def NetP.Good (G : NetP) (D : Nat -> Nat -> Int) (x p : Nat) (d : DS) : Prop := ∃ i y q, i < G.n /\ G.pe x p = some (y, q) /\ d.mk6 = (G.ow i).mk6 /\ 0 <= D i y /\ D i y <= d.st
theorem c0p {a b : DS} (h : a.mk6 = b.mk6) : a.gm = b.gm := by
 unfold DS.mk6 at h
 simp only [List.cons.injEq] at h
 exact h.2.2.2.2.2.1
def NetP.AllG (G : NetP) (D : Nat -> Nat -> Int) (M : Mem) : Prop := ∀ x p a d, M x p = some (a, d) -> G.Good D x p d
theorem c63 {G : NetP} (hG : G.OK) {D : Nat -> Nat -> Int} (hD : G.Dst D) {M : Mem} (hM : G.AllG D M) : G.AllG D (G.rnd M) := by
 intro x p a d h
 obtain ⟨y, q, hp, hc⟩ := b5b h
 obtain ⟨⟨hx, hy⟩, _, _, _, hq⟩ := hG.pe_ok _ _ _ _ hp
 rcases hc with ⟨rfl, hs⟩ | ⟨a', hm, rfl, hlt⟩
 ·rcases b5e hs with ⟨_, rfl⟩ | ⟨hne, hst, rfl⟩
  ·refine ⟨y, y, q, hy, hp, rfl, ?_, ?_⟩
   ·rw [hD.zero y hy]; omega
   ·show D y y <= (G.ow y).st
    rw [hD.zero y hy, hG.st]; omega
  ·rcases a6c G M y with ⟨_, e⟩ | ⟨_, b, _, _, _, ⟨a', hm⟩, _⟩
   ·exact absurd e hne
   ·generalize G.fol M y = f at *
    obtain ⟨i, z, r, hi, hz, hm6, hd0, hd1⟩ := hM _ _ _ _ hm
    obtain ⟨_, _, _, _, hr⟩ := hG.pe_ok _ _ _ _ hz
    obtain ⟨g1, g2⟩ := hD.edge i z r y (b + 1) hi hr hd0
    refine ⟨i, y, q, hi, hp, hm6, g1, ?_⟩
    show D i y <= f.st + 1
    omega
 ·exact hM _ _ _ _ hm
theorem a7l {G : NetP} (hG : G.OK) {D : Nat -> Nat -> Int} (hD : G.Dst D) {M : Mem} (hM : G.AllG D M) : ∀ t, G.AllG D (G.run M t)
 | 0 => hM
 | t + 1 => c63 hG hD (a7l hG hD hM t)
def NetP.Best (G : NetP) (D : Nat -> Nat -> Int) (m : Nat) : Prop := m < G.n /\ ∀ i, i < G.n -> 0 <= D m i -> i ≠ m -> ltM (G.ow m) (G.ow i) = true
def NetP.Set1 (G : NetP) (M : Mem) (m x k : Nat) : Prop := (k = 0 /\ a2u (G.ow x) (hrd M x) = true /\ G.fol M x = G.ow x) \/ (0 < k /\ a2u (G.ow x) (hrd M x) = false /\ (G.fol M x).mk6 = (G.ow m).mk6 /\ (G.fol M x).st + 1 = k)
theorem a39 {G : NetP} (hG : G.OK) {D : Nat -> Nat -> Int} (hD : G.Dst D) {m x : Nat} (hm : G.Best D m) (hx : 0 <= D m x) {p : Nat} {d : DS} (hg : G.Good D x p d) :
  ltM (G.ow m) d = true \/ (d.mk6 = (G.ow m).mk6 /\ ∃ y q, G.pe x p = some (y, q) /\ 0 <= D m y /\ D m y <= d.st) := by
 obtain ⟨i, y, q, hi, hp, hm6, hd0, hd1⟩ := hg
 obtain ⟨⟨hxn, hyn⟩, _, _, _, hq⟩ := hG.pe_ok _ _ _ _ hp
 have hmy := hD.edge m x p y q hm.1 hp hx
 have hmi := hD.comp m i y hm.1 hi hyn hmy.1 hd0
 by_cases him : i = m
 ·subst him
  exact .inr ⟨hm6, y, q, hp, hd0, hd1⟩
 ·left
  have := hm.2 i hi hmi him
  unfold ltM at this ⊢
  rw [hm6]; exact this
theorem c2o {G : NetP} (hG : G.OK) {D : Nat -> Nat -> Int} (hD : G.Dst D) {m : Nat} (hm : G.Best D m) {M : Mem} (hM : G.AllG D M) : G.Set1 M m m 0 := by
 have hs : a2u (G.ow m) (hrd M m) = true := by
  by_cases h : a2u (G.ow m) (hrd M m) = true
  ·exact h
  ·rcases a6c G M m with ⟨e, _⟩ | ⟨_, b, e1, e2, e3, ⟨a, e4⟩, e5, e6⟩
   ·exact e
   ·exfalso
    have hg := hM _ _ _ _ e4
    rcases a39 hG hD hm (by rw [hD.zero m hm.1]; omega) hg with h1 | ⟨h1, y, q, hp, h2, h3⟩
    ·rw [a4e h1] at e5; cases e5
    ·have hym : D m y ≠ 0 := fun h0 => by
      obtain ⟨⟨_, hyn⟩, _, _, hne, _⟩ := hG.pe_ok _ _ _ _ hp
      exact hne (hD.zeq m y hm.1 hyn h0).symm
     rw [a74 h1.symm (by rw [hG.st]; omega)] at e5
     cases e5
 exact .inl ⟨rfl, hs, by unfold NetP.fol a5r; rw [if_pos hs]⟩
theorem c2j {G : NetP} (hG : G.OK) {D : Nat -> Nat -> Int} (hD : G.Dst D) {m : Nat} (hm : G.Best D m) {M : Mem} (hM : G.AllG D M) {x k : Nat} (hxn : x < G.n) (hx : D m x = k + 1)
  {p : Nat} {a : Int} {d : DS} (hp : 1 <= p /\ p <= 8) (hd : M x p = some (a, d)) (h6 : d.mk6 = (G.ow m).mk6) (hst : d.st = k) : G.Set1 M m x (k + 1) := by
 have hxm : x ≠ m := fun e => by rw [e, hD.zero m hm.1] at hx; omega
 have hltx : ltM (G.ow m) (G.ow x) = true := hm.2 x hxn (by omega) hxm
 rcases b0w M x with ⟨_, e2⟩ | ⟨b, e1, e2, ⟨ab, e3⟩, e4⟩
 ·exact absurd hd (e2 p a d hp.1 hp.2)
 ·have hf := e4 p a d hp.1 hp.2 hd
  have hgb := hM _ _ _ _ e3
  generalize hB : a1p (hrd M x) b = B at *
  have hB6 : B.mk6 = (G.ow m).mk6 /\ B.st = k := by
   rcases a39 hG hD hm (by omega) hgb with h1 | ⟨h1, y, q, hpp, h2, h3⟩
   ·have : ltM d B = true := by unfold ltM at h1 ⊢; rw [h6]; exact h1
    rw [a4e this] at hf; cases hf
   ·obtain ⟨_, _, _, _, hq⟩ := hG.pe_ok _ _ _ _ hpp
    have hed := hD.edge m y q x (b + 1) hm.1 hq h2
    rcases b9v hf with h4 | ⟨_, h5⟩
    ·unfold ltM at h4; rw [h1, h6, a4m] at h4; cases h4
    ·exact ⟨h1, by omega⟩
  have hs : a2u (G.ow x) (hrd M x) = false := by
   unfold a2u
   rw [e1, Int.toNat_natCast, hB]
   have : ltM B (G.ow x) = true := by unfold ltM at hltx ⊢; rw [hB6.1]; exact hltx
   rw [a43 this, Bool.or_false]
   exact decide_eq_false (by omega)
  have hfol : G.fol M x = B := by
   unfold NetP.fol a5r; rw [if_neg (by rw [hs]; simp), e1, Int.toNat_natCast, hB]
  exact .inr ⟨by omega, hs, by rw [hfol]; exact hB6.1, by rw [hfol, hB6.2]; rfl⟩
theorem d0o {c : Int} (h : c = 2) : ann c = true := by subst h; rfl
theorem c4e {c : Int} (h : c = 3) : ann c = true := by subst h; rfl
theorem c0f {G : NetP} (hG : G.OK) {D : Nat -> Nat -> Int} (hD : G.Dst D) {m : Nat} (hm : G.Best D m) {M : Mem} (hM : G.AllG D M) {x k y p q : Nat} (hk : k < 31) (hx : D m x = k + 1) (hy : D m y = k) (hpe : G.pe x p = some (y, q)) (hS : G.Set1 M m y k) :
  ∃ d : DS, G.rnd M x p = some (0, d) /\ d.mk6 = (G.ow m).mk6 /\ d.st = k := by
 obtain ⟨⟨hxn, hyn⟩, hpb, hqb, hne, hq⟩ := hG.pe_ok _ _ _ _ hpe
 have key : ∃ d : DS, G.snd M y q x p = some d /\ d.mk6 = (G.ow m).mk6 /\ d.st = k := by
  rcases hS with ⟨rfl, hs, hf⟩ | ⟨hk0, hs, hf6, hfs⟩
  ·have hc : ann (G.cod M y (q - 1)) = true := d0o (by unfold NetP.cod a4v; rw [if_pos hs])
   have hym : y = m := hD.zeq m y hm.1 hyn (by simpa using hy)
   refine ⟨{ G.ow y with se := G.id y, sp := (q : Int), re := G.id x, rp := (p : Int) }, by unfold NetP.snd; rw [if_pos hc, if_pos hf], ?_, ?_⟩
   ·rw [hym]; rfl
   ·show (G.ow y).st = ((0 : Nat) : Int)
    rw [hG.st]; rfl
  ·rcases a6c G M y with ⟨e, _⟩ | ⟨_, b, e1, e2, e3, ⟨ab, e4⟩, e5, e6⟩
   ·rw [hs] at e; cases e
   ·have hbq : b + 1 ≠ q := fun hbq => by
     rw [hbq] at e4
     rcases a39 hG hD hm (by omega) (hM _ _ _ _ e4) with h1 | ⟨h1, z, r, hz, h2, h3⟩
     ·unfold ltM at h1; rw [hf6, a4m] at h1; cases h1
     ·rw [hq] at hz
      obtain ⟨rfl, rfl⟩ := Prod.mk.inj (Option.some.inj hz)
      omega
    have hc : ann (G.cod M y (q - 1)) = true := by
     refine c4e ?_
     unfold NetP.cod a4v
     rw [if_neg (by rw [hs]; simp), if_neg (by rw [e1]; omega), e1, Int.toNat_natCast, <- e3, if_pos]
     cases hh : a3x (hrd M y) (q - 1) with
     | false => exact .inl rfl
     | true =>
      right
      obtain ⟨a', hm'⟩ := c40 (by omega) hh
      rw [show q - 1 + 1 = q by omega] at hm'
      generalize a1p (hrd M y) (q - 1) = d' at *
      rcases a39 hG hD hm (by omega) (hM _ _ _ _ hm') with h1 | ⟨h1, z, r, hz, h2, h3⟩
      ·apply a4e
       have e : (b2q (G.fol M y) (G.ow y) (q - 1) d').mk6 = (G.ow m).mk6 := hf6
       unfold ltM at h1 ⊢
       rw [e]; exact h1
      ·rw [hq] at hz
       obtain ⟨rfl, rfl⟩ := Prod.mk.inj (Option.some.inj hz)
       apply a74 (a := b2q (G.fol M y) (G.ow y) (q - 1) d') (hf6.trans h1.symm)
       show (G.fol M y).st + 1 < d'.st
       omega
    have hno : G.fol M y ≠ G.ow y := fun e => by
     rw [e] at hf6
     have h1 := c0p hf6
     rw [hG.gm, hG.gm] at h1
     have := hG.inj y m hyn hm.1 h1
     rw [this, hD.zero m hm.1] at hy
     omega
    refine ⟨{ G.fol M y with st := (G.fol M y).st + 1, se := G.id y, sp := (q : Int), re := G.id x, rp := (p : Int) }, by unfold NetP.snd; rw [if_pos hc, if_neg hno, if_pos (by omega)], hf6, hfs⟩
 obtain ⟨d, h1, h2, h3⟩ := key
 refine ⟨d, ?_, h2, h3⟩
 unfold NetP.rnd
 rw [hpe]
 dsimp only
 rw [h1]
theorem b8v {G : NetP} (hG : G.OK) {D : Nat -> Nat -> Int} (hD : G.Dst D) {m : Nat} (hm : G.Best D m) {M : Mem} (hM : G.AllG D M) : ∀ (k t x : Nat), x < G.n -> k < 32 -> D m x = k -> k <= t -> G.Set1 (G.run M t) m x k
 | 0, t, x, hx, _, hd, _ => by
  have : x = m := hD.zeq m x hm.1 hx (by simpa using hd)
  subst this
  exact c2o hG hD hm (a7l hG hD hM t)
 | k + 1, t, x, hx, hk, hd, ht => by
  obtain ⟨s, rfl⟩ : ∃ s, t = s + 1 := ⟨t - 1, by omega⟩
  obtain ⟨p, y, q, hp, hy⟩ := hD.back m x hm.1 hx (by omega)
  obtain ⟨⟨_, hyn⟩, hpb, _⟩ := hG.pe_ok _ _ _ _ hp
  have ih := b8v hG hD hm hM k s y hyn (by omega) (by omega) (by omega)
  have hGs := a7l hG hD hM s
  obtain ⟨d, h1, h2, h3⟩ := c0f hG hD hm hGs (by omega) (by omega) (by omega) hp ih
  exact c2j hG hD hm (a7l hG hD hM (s + 1)) hx (by omega) hpb h1 h2 h3
theorem d3o {G : NetP} (hG : G.OK) {D : Nat -> Nat -> Int} (hD : G.Dst D) {m : Nat} (hm : G.Best D m) {k t x : Nat} (hx : x < G.n) (hk : k < 32) (hd : D m x = k) (ht : k <= t) : G.Set1 (G.run (fun _ _ => none) t) m x k :=
 b8v hG hD hm (fun _ _ _ _ h => by cases h) k t x hx hk hd ht
end Go.Vx.L58
set_option maxRecDepth 100000
namespace Go.Vx.L58
open Go Go.Proofs
theorem a8c {n : Int} (h1 : -9223372036854775808 <= n) (h2 : n <= 9223372036854775807) : IntKind.i64.wrap n = n := c7x h1 h2
structure Ed where
 a : Int
 pa : Int
 b : Int
 pb : Int
 deriving DecidableEq
def ed0 : Ed := ⟨0, 0, 0, 0⟩
instance : Inhabited Ed := ⟨ed0⟩
def edC (c : Ed) : List AV := [.val (.int .i64 c.a), .val (.int .i64 c.pa), .val (.int .i64 c.b), .val (.int .i64 c.pb)]
abbrev edF (l : List Ed) : Nat -> Nat -> AV := a2e edC ed0 l
theorem c6z : Flat edC := fun x v h => by simp [edC] at h; rcases h with rfl | rfl | rfl | rfl <;> trivial
instance : FlatC edC := ⟨c6z⟩
abbrev gA (n : Int) (l : List Ed) (cap : Option Nat) : AV := .agg [.val (.int .i64 n), .sl 0 4 0 l.length cap]
abbrev gB (l : List Ed) : Blk := .arr false 61 4 l.length (edF l)
def a6r (n a p : Int) : Bool := decide (0 <= a /\ a < n /\ 1 <= p /\ p <= 8)
theorem c5d (n a p : Int) (l : List Ed) (cap : Option Nat) : Runs Tryz.prog 110 [gA n l cap, .val (.int .i64 a), .val (.int .i64 p)] [gB l] (Det (.sb (a6r n a p)) [gB l]) := by
 refine Runs.mk a0k Tryz.call110 Tryz.func110 rfl Tryz.ntmps110 Tryz.results110 rfl ?_
 (repeat' (first
  | refine SP ?_
  | (apply a0a <;> intro hb <;> (try simp only [nS, nT, eq_self, reduceCtorEq] at hb))
  | (apply a0v [some 0]; (focus (iterate 2 (all_goals (repeat' (first | exact trivial | refine SP ?_ | refine And.intro ?_ ?_ | exact a0j rfl rfl rfl | refine a1m ?_ | refine a0w ?_ ))))); any_goals (apply a0e; rfl))
  ))
 all_goals (simp_all [a6r] <;> omega)
def ckL (n : Int) : List Ed -> List (List Int) -> Int
 | [], _ => 0
 | e :: r, seen => if !(a6r n e.a e.pa && a6r n e.b e.pb) then 3 else if e.a = e.b then 18
   else if seen.contains [e.a, e.pa] || seen.contains [e.b, e.pb] then 10 else ckL n r (seen ++ [[e.a, e.pa], [e.b, e.pb]])
def ckC (n : Int) (l : List Ed) : Int := if n < 1 \/ 24 < n then 3 else if l.length > 64 then 6 else ckL n l []
def a2b : List Ed -> List (List Int)
 | [] => []
 | e :: r => [e.a, e.pa] :: [e.b, e.pb] :: a2b r
theorem c20 (l r : List Ed) : a2b (l ++ r) = a2b l ++ a2b r := by
 induction l with
 | nil => rfl
 | cons e l ih => simp [a2b, ih]
theorem b3k (x : List Int) (l : List Ed) : x ∈ a2b l ↔ ∃ e ∈ l, x = [e.a, e.pa] \/ x = [e.b, e.pb] := by
 induction l with
 | nil => simp [a2b]
 | cons e l ih => simp [a2b, ih, or_assoc]
section
theorem take_succ {l : List Ed} {k : Nat} (h : k < l.length) : l.take (k + 1) = l.take k ++ [l.getD k ed0] := by
 rw [List.getD_eq_getElem?_getD, List.getElem?_eq_getElem h, Option.getD_some]; exact (List.take_append_getElem h).symm
theorem b0n {l : List Ed} {k : Nat} (h : k < l.length) : a2b (l.take (k + 1)) = a2b (l.take k) ++ [[(l.getD k ed0).a, (l.getD k ed0).pa], [(l.getD k ed0).b, (l.getD k ed0).pb]] := by
 rw [take_succ h, c20]; rfl
end
theorem a68 (n : Int) (l : List Ed) (cap : Option Nat) (hl : l.length <= maxLen) :
  Runs Tryz.prog 65 [gA n l cap] [gB l] (Det (.val (.int .i64 (ckC n l))) [gB l]) := by
 have hmx : maxLen = 9223372036854775807 := by decide
 refine Runs.mk a0k Tryz.call65 Tryz.func65 rfl Tryz.ntmps65 Tryz.results65 rfl ?_
 (repeat' (first
  | refine SP ?_
  | (apply a0a <;> intro hb <;> (try simp only [nS, nT, eq_self, reduceCtorEq] at hb))
  | refine a0c ?_
  | (apply a0v [some 0]; (focus (iterate 2 (all_goals (repeat' (first | exact trivial | refine SP ?_ | refine And.intro ?_ ?_ | exact a0j rfl rfl rfl | refine a0f ?_ ))))); any_goals (apply a0e; rfl))
  ))
 ·simp [ckC]; omega
 ·simp [ckC]; omega
 ·simp [ckC]; omega
 refine a0p (σ := Nat) (fun x => x <= l.length /\ ckL n (l.drop x) (a2b (l.take x)) = ckL n l []) (fun x => ⟨[(1, .ptr 1 2 0 0), (3, .map 2), (22, .sl 0 4 0 l.length cap), (23, .val (.int .i64 l.length)), (24, .val (.int .i64 x))], [gB l, .var [.val (.int .i64 n), .sl 0 4 0 l.length cap], .map (some 2) (a2b (l.take x)) (fun _ => .val (.bool true))]⟩) (fun x => l.length - x) (0) ?_ ?_ ?_
 ·simp [a2b]
 ·(apply a04 [some 0, some 1, some 2]; (focus (iterate 2 (all_goals (repeat' (first | exact a02 rfl | refine map_mk ?_ ?_ | exact a0g | exact trivial | refine SP ?_ | refine And.intro ?_ ?_ | refine a0d ?_ ?_ | refine a09 ?_ | exact a0z rfl rfl | exact a0r rfl rfl rfl | exact a0b _ _ | exact a0j rfl rfl rfl ))))); any_goals (apply a0e; rfl))
  all_goals (try (first | rfl | (intro x hx; simp [a2b] at hx)))
 rintro k ⟨hk, ht⟩
 have hC : ckC n l = ckL n l [] := by unfold ckC; rw [if_neg (by omega), if_neg (by omega)]
 have hd := drop_cons l k ed0
 have he := fun h => b0n (l := l) (k := k) h
 (repeat' (first
  | refine SP ?_
  | (apply a0a <;> intro hb <;> (try simp only [nS, nT, eq_self, reduceCtorEq] at hb))
  | refine a0q (by decide +kernel) ?_
  | refine a0c ?_
  | refine OB ?_
  | ((first | apply a1z (c5d _ _ _ _ _) ); exact AS; (try (any_goals fail)))
  | (apply a0v [some 0]; (focus (iterate 2 (all_goals (repeat' (first | exact trivial | refine SP ?_ | refine And.intro ?_ ?_ | exact a0j rfl rfl rfl | refine a0f ?_ ))))); any_goals (apply a0e; rfl))
  | (apply a0i (Subtype.mk (k + 1) _); (focus (apply a04 [some 0, some 1, some 2]; (focus (iterate 2 (all_goals (repeat' (first | exact a02 rfl | refine map_mk ?_ ?_ | exact a0g | exact trivial | refine SP ?_ | refine And.intro ?_ ?_ | refine a0d ?_ ?_ | refine a09 ?_ | exact a0z rfl rfl | exact a0r rfl rfl rfl | exact a0b _ _ | exact a0j rfl rfl rfl | ((refine a0f ?_); first | with_reducible rfl | omega | ((try simp only [wS]); omega) | rfl) ))))); any_goals (apply a0e; rfl))); (all_goals (try (first | (simp only; omega)))))
  ))
 all_goals (try simp only [Nat.zero_add, Int.toNat_natCast] at *)
 ·rw [hC, <- ht, hd (by omega)]; simp only [ckL, hb, Bool.false_and, Bool.not_false, if_true]
 ·rename_i h1; rw [hC, <- ht, hd (by omega)]; simp only [ckL, h1, hb, Bool.and_false, Bool.not_false, if_true]
 ·rename_i h1 h2; rw [hC, <- ht, hd (by omega)]; simp only [ckL, h1, h2, if_pos hb, Bool.and_true, Bool.not_true, Bool.false_eq_true, if_false]
 ·rename_i h1 h2 h3; rw [hC, <- ht, hd (by omega)]; simp only [ckL, h1, h2, h3, hb, Bool.and_true, Bool.not_true, Bool.false_eq_true, if_false, Bool.true_or, if_true]
 ·rename_i h1 h2 h3 h4; rw [hC, <- ht, hd (by omega)]; simp only [ckL, h1, h2, h3, h4, hb, Bool.and_true, Bool.not_true, Bool.false_eq_true, if_false, Bool.or_true, if_true]
 ·rename_i h1 h2 h3 h4
  have h5 : (a2b (l.take k) ++ [[(l.getD k ed0).a, (l.getD k ed0).pa]]).contains [(l.getD k ed0).b, (l.getD k ed0).pb] = false := by
   rw [Bool.eq_false_iff] at hb ⊢
   intro q
   rw [List.contains_iff_mem, List.mem_append] at q
   rcases q with q | q
   ·exact hb (List.contains_iff_mem.2 q)
   ·simp at q; exact h3 q.1.symm
  rw [he (by omega)]
  simp only [addKey, h4, cond_false, h5, List.append_assoc, List.cons_append, List.nil_append]
 ·intro x hx
  simp only [b1d]
  cases (x == [(l.getD k ed0).b, (l.getD k ed0).pb])
  ·cases (x == [(l.getD k ed0).a, (l.getD k ed0).pa]) <;> rfl
  ·rfl
 ·rename_i h1 h2 h3 h4
  rw [<- ht, hd (by omega), he (by omega)]
  simp only [ckL, h1, h2, h3, h4, hb, Bool.and_true, Bool.not_true, Bool.false_eq_true, if_false, Bool.or_false]
 ·rw [hC, <- ht, List.drop_of_length_le (by omega)]; rfl
end Go.Vx.L58
set_option maxRecDepth 100000
namespace Go.Vx.L58
open Go Go.Proofs
abbrev dC (d : DS) : List AV := [.val (.int .i64 d.p1), .val (.int .i64 d.cl), .val (.int .i64 d.ac), .val (.int .i64 d.va), .val (.int .i64 d.p2), .val (.int .u64 d.gm), .val (.int .i64 d.st), .val (.int .u64 d.se), .val (.int .i64 d.sp), .val (.int .u64 d.re), .val (.int .i64 d.rp)]
abbrev aD (d : DS) : AV := .agg (dC d)
def inI (n : Int) : Prop := -9223372036854775808 <= n /\ n <= 9223372036854775807
def inU (n : Int) : Prop := 0 <= n /\ n <= 18446744073709551615
structure wfD (d : DS) : Prop where
 p1 : inI d.p1
 cl : inI d.cl
 ac : inI d.ac
 va : inI d.va
 p2 : inI d.p2
 gm : inU d.gm
 st : inI d.st
 se : inU d.se
 sp : inI d.sp
 re : inU d.re
 rp : inI d.rp
theorem bvt {a : Int} (h0 : 0 <= a) (h1 : a < 18446744073709551616) : (BitVec.ofInt IntKind.u64.bits a).toNat = a.toNat := by
 rw [BitVec.toNat_ofInt]
 show (a % ((2:Int)^64)).toNat = a.toNat
 congr 1
 exact Int.emod_eq_of_lt h0 h1
theorem b6o (m : Nat) (h : m < 18446744073709551616) : m ^^^ 9223372036854775808 = if m < 9223372036854775808 then m + 9223372036854775808 else m - 9223372036854775808 := by
 have h1 : (m ^^^ 9223372036854775808) % 2 ^ 63 = (m % 2 ^ 63) ^^^ (9223372036854775808 % 2 ^ 63) := Nat.xor_mod_two_pow
 have h2 : (m ^^^ 9223372036854775808) / 2 ^ 63 = (m / 2 ^ 63) ^^^ (9223372036854775808 / 2 ^ 63) := Nat.xor_div_two_pow
 rw [show (9223372036854775808 : Nat) % 2 ^ 63 = 0 by decide, Nat.xor_zero] at h1
 rw [show (9223372036854775808 : Nat) / 2 ^ 63 = 1 by decide] at h2
 rw [show (2 : Nat) ^ 63 = 9223372036854775808 by decide] at h1 h2
 by_cases hm : m < 9223372036854775808
 ·rw [if_pos hm]
  rw [show m / 9223372036854775808 = 0 by omega, show (0 : Nat) ^^^ 1 = 1 by decide] at h2
  omega
 ·rw [if_neg hm]
  rw [show m / 9223372036854775808 = 1 by omega, show (1 : Nat) ^^^ 1 = 0 by decide] at h2
  omega
theorem a5u (n : Int) (h : inI n) : IntKind.u64.wrap ((BitVec.ofInt IntKind.u64.bits (IntKind.u64.wrap n) ^^^ BitVec.ofInt IntKind.u64.bits 9223372036854775808).toNat : Int) = n + 9223372036854775808 := by
 obtain ⟨h0, h1⟩ := h
 have e : IntKind.u64.wrap n = n % 18446744073709551616 := by rw [IntKind.wrap_u64]
 rw [BitVec.toNat_xor, bvt (by rw [e]; omega) (by rw [e]; omega), bvt (by decide) (by decide), e, show ((9223372036854775808 : Int)).toNat = 9223372036854775808 by decide, b6o _ (by omega), IntKind.wrap_u64]
 split <;> omega
def rkV (d : DS) : Nat -> Int
 | 0 => d.p1 + 9223372036854775808
 | 1 => d.cl + 9223372036854775808
 | 2 => d.ac + 9223372036854775808
 | 3 => d.va + 9223372036854775808
 | 4 => d.p2 + 9223372036854775808
 | 5 => d.gm
 | 6 => d.st + 9223372036854775808
 | 7 => d.se
 | 8 => d.sp + 9223372036854775808
 | 9 => d.re
 | 10 => d.rp + 9223372036854775808
 | _ => 0
theorem c3o (d : DS) (hd : wfD d) (k : Nat) (hk : k <= 10) : Runs Tryz.prog 77 [aD d, .val (.int .i64 k)] [] (Det (.val (.int .u64 (rkV d k))) []) := by
 obtain ⟨h0, h1, h2, h3, h4, h5, h6, h7, h8, h9, h10⟩ := hd
 have x0 := a5u _ h0
 have x1 := a5u _ h1
 have x2 := a5u _ h2
 have x3 := a5u _ h3
 have x4 := a5u _ h4
 have x6 := a5u _ h6
 have x8 := a5u _ h8
 have x10 := a5u _ h10
 have : k = 0 \/ k = 1 \/ k = 2 \/ k = 3 \/ k = 4 \/ k = 5 \/ k = 6 \/ k = 7 \/ k = 8 \/ k = 9 \/ k = 10 := by omega
 rcases this with rfl | rfl | rfl | rfl | rfl | rfl | rfl | rfl | rfl | rfl | rfl
 all_goals
  simp only [rkV]
  refine Runs.mk a0k Tryz.call77 Tryz.func77 rfl Tryz.ntmps77 Tryz.results77 rfl ?_
  (repeat' (first
  | refine SP ?_
  | refine a18 (by first | exact beq_self_eq_true _ | decide) ?_
  | refine a1d (by decide) ?_
  | refine a0c ?_
  | exact RT []
  ))
theorem d04 (x y : Int) : Runs Tryz.prog 118 [.val (.int .u64 x), .val (.int .u64 y)] [] (Det (.val (.int .i64 (if x < y then -1 else if y < x then 1 else 0))) []) := by
 have hn : ∀ z : Int, Runs Tryz.prog 150 [.val (.int .u64 z)] [] (Det (.sb false) []) := fun z => by
  refine Runs.mk a0k Tryz.call150 Tryz.func150 rfl Tryz.ntmps150 Tryz.results150 rfl ?_
  (repeat' (first
  | refine SP ?_
  | (apply a0v []; (focus (iterate 2 (all_goals (repeat' (first | exact trivial | refine And.intro ?_ ?_ | refine a1m ?_ ))))); any_goals (apply a0e; rfl))
  ))
  all_goals simp
 refine Runs.mk a0k Tryz.call118 Tryz.func118 rfl Tryz.ntmps118 Tryz.results118 rfl ?_
 (repeat' (first
  | refine SP ?_
  | (with_reducible refine a07 ?_)
  | (apply a0a <;> intro hb <;> (try simp only [nS, nT, eq_self, reduceCtorEq] at hb) <;> (try (exfalso; omega)))
  | refine a0c ?_
  | ((first | apply a0t (hn _) ); exact AS)
  | exact RT []
  ))
def kyD (d : DS) (k : Nat) : Int := d.ks.getD k 0
theorem d3x (a b : DS) (k : Nat) (hk : k <= 10) : rkV a k < rkV b k ↔ kyD a k < kyD b k := by
 have : k = 0 \/ k = 1 \/ k = 2 \/ k = 3 \/ k = 4 \/ k = 5 \/ k = 6 \/ k = 7 \/ k = 8 \/ k = 9 \/ k = 10 := by omega
 rcases this with rfl | rfl | rfl | rfl | rfl | rfl | rfl | rfl | rfl | rfl | rfl
 all_goals (simp only [rkV, kyD, DS.ks, DS.mk6, DS.tl5, List.cons_append, List.nil_append, List.getD_cons_zero, List.getD_cons_succ]; first | done | omega)
theorem b6t : ∀ (k : Nat) (a b : List Int), k < a.length -> a.length = b.length -> (∀ y, y < k -> a.getD y 0 = b.getD y 0) -> (a.getD k 0 < b.getD k 0 -> lexB a b = true) /\ (b.getD k 0 < a.getD k 0 -> lexB a b = false)
 | _, [], _, h, _, _ => by simp at h
 | _, _ :: _, [], _, h, _ => by simp at h
 | 0, a :: x, b :: y, _, _, _ => by
  simp only [List.getD_cons_zero, lexB]
  refine ⟨fun h => if_pos h, fun h => ?_⟩
  rw [if_neg (by omega), if_pos h]
 | k + 1, a :: x, b :: y, h1, h2, h3 => by
  have e : a = b := by simpa using h3 0 (by omega)
  subst e
  simp only [List.getD_cons_succ, lexB]
  rw [if_neg (by omega), if_neg (by omega)]
  exact b6t k x y (by simpa using h1) (by simpa using h2) fun z hz => by simpa using h3 (z + 1) (by omega)
theorem b4q : ∀ (a b : List Int), a.length = b.length -> (∀ y, y < a.length -> a.getD y 0 = b.getD y 0) -> a = b
 | [], [], _, _ => rfl
 | [], _ :: _, h, _ => by simp at h
 | _ :: _, [], h, _ => by simp at h
 | a :: x, b :: y, h1, h2 => by
  have e : a = b := by simpa using h2 0 (by simp)
  rw [e, b4q x y (by simpa using h1) fun z hz => by simpa using h2 (z + 1) (by simpa using hz)]
def c0n (a b : DS) : Int := if a1r a b = true then -1 else if a1r b a = true then 1 else 0
theorem c3f (d : DS) : d.ks.length = 11 := rfl
theorem d4g : (c7a 0).length = 14 := rfl
theorem d6c (x : Nat) (hx : x < 11) : (c7a 0).getD (0 + Int.toNat (x : Int) * 1) 0 = x := by
 have : x = 0 \/ x = 1 \/ x = 2 \/ x = 3 \/ x = 4 \/ x = 5 \/ x = 6 \/ x = 7 \/ x = 8 \/ x = 9 \/ x = 10 := by omega
 rcases this with rfl | rfl | rfl | rfl | rfl | rfl | rfl | rfl | rfl | rfl | rfl <;> rfl
set_option maxHeartbeats 2000000 in
theorem b92 (a b : DS) (ha : wfD a) (hb' : wfD b) : Runs Tryz.prog 78 [.agg [.fn (.func 77) []], aD a, aD b, .val (.int .i64 0), .val (.int .i64 11)] [] (Det (.val (.int .i64 (c0n a b))) []) := by
 have hgn := d4g
 refine Runs.mk a0k Tryz.call78 Tryz.func78 rfl Tryz.ntmps78 Tryz.results78 rfl ?_
 (repeat' (first
  | refine SP ?_
  | refine a0c ?_
  ))
 refine a0p (σ := Nat) (fun x => x <= 11 /\ ∀ y, y < x -> kyD a y = kyD b y) (fun x => ⟨[(4, .val (.int .i64 11)), (5, .ptr 0 1 0 0), (6, .ptr 1 11 0 0), (7, .ptr 2 11 0 0), (11, .val (.int .i64 x))], [.var [.fn (.func 77) []], .var (dC a), .var (dC b)]⟩) (fun x => 11 - x) (0) ?_ ?_ ?_
 ·exact ⟨by omega, fun y h => by omega⟩
 ·exact LT [some 0, some 1, some 2]
 rintro x ⟨hx, hxe⟩
 by_cases hx11 : x < 11
 ·have e := d6c x hx11
  have r1 := c3o a ha x (by omega)
  have r2 := c3o b hb' x (by omega)
  have l1 := d3x a b x (by omega)
  have l2 := d3x b a x (by omega)
  have hc := d04 (rkV a x) (rkV b x)
  rw [<- e] at r1 r2
  have hat := b6t x a.ks b.ks (by rw [c3f]; exact hx11) rfl hxe
  have hat2 := b6t x b.ks a.ks (by rw [c3f]; exact hx11) rfl (fun y h => (hxe y h).symm)
  by_cases c1 : kyD a x < kyD b x
  ·have e1 : c0n a b = -1 := by unfold c0n a1r; rw [if_pos (hat.1 c1)]
   rw [if_pos (l1.2 c1)] at hc
   rw [e1]
   generalize rkV a x = ra at *
   generalize rkV b x = rb' at *
   (repeat' (first
  | refine SP ?_
  | (apply a0a <;> intro hb <;> (try simp only [nS, nT, eq_self, reduceCtorEq] at hb) <;> (try (exfalso; omega)))
  | refine a0q (by decide +kernel) ?_
  | refine a0c ?_
  | refine OB ?_
  | ((first | apply a1l (r1)); exact AS)
  | ((first | apply a1l (r2)); exact AS)
  | ((first | apply a1l (hc)); exact AS)
  | exact RT []
  ))
  ·by_cases c2 : kyD b x < kyD a x
   ·have e1 : c0n a b = 1 := by unfold c0n a1r; rw [if_neg (by rw [hat.2 c2]; simp), if_pos (hat2.1 c2)]
    rw [if_neg (fun h => c1 (l1.1 h)), if_pos (l2.2 c2)] at hc
    rw [e1]
    (repeat' (first
  | refine SP ?_
  | (apply a0a <;> intro hb <;> (try simp only [nS, nT, eq_self, reduceCtorEq] at hb) <;> (try (exfalso; omega)))
  | refine a0q (by decide +kernel) ?_
  | refine a0c ?_
  | refine OB ?_
  | ((first | apply a1l (r1)); exact AS)
  | ((first | apply a1l (r2)); exact AS)
  | ((first | apply a1l (hc)); exact AS)
  | exact RT []
  ))
   ·rw [if_neg (fun h => c1 (l1.1 h)), if_neg (fun h => c2 (l2.1 h))] at hc
    have hxe' : ∀ y, y < x + 1 -> kyD a y = kyD b y := fun y hy => by
     by_cases h : y = x
     ·rw [h]; omega
     ·exact hxe y (by omega)
    (repeat' (first
  | refine SP ?_
  | (apply a0a <;> intro hb <;> (try simp only [nS, nT, eq_self, reduceCtorEq] at hb) <;> (try (exfalso; omega)))
  | refine a0q (by decide +kernel) ?_
  | refine a0c ?_
  | refine OB ?_
  | ((first | apply a1l (r1)); exact AS)
  | ((first | apply a1l (r2)); exact AS)
  | ((first | apply a1l (hc)); exact AS)
  | (apply a0i (Subtype.mk (x + 1) ⟨by omega, hxe'⟩); (focus exact LT [some 0, some 1, some 2]); (all_goals (try (first | (simp only; omega)))))
  ))
 ·have e1 : c0n a b = 0 := by
   have hk : a.ks = b.ks := b4q _ _ rfl fun y hy => hxe y (by rw [c3f] at hy; omega)
   unfold c0n a1r
   rw [hk, a4m]; rfl
  rw [e1]
  (repeat' (first
  | refine SP ?_
  | (apply a0a <;> intro hb <;> (try simp only [nS, nT, eq_self, reduceCtorEq] at hb) <;> (try (exfalso; omega)))
  | refine a0c ?_
  | exact RT []
  ))
theorem b30 (a b : DS) (ha : wfD a) (hb' : wfD b) : Runs Tryz.prog 37 [aD a, aD b] [] (Det (.sb (a1r a b)) []) := by
 have hc := b92 a b ha hb'
 by_cases h1 : a1r a b = true
 ·have e : c0n a b = -1 := by unfold c0n; rw [if_pos h1]
  rw [e] at hc
  rw [h1]
  refine Runs.mk a0k Tryz.call37 Tryz.func37 rfl Tryz.ntmps37 Tryz.results37 rfl ?_
  (repeat' (first
  | refine SP ?_
  | ((first | apply a0t (hc) ); exact AS)
  | exact RT []
  ))
 ·have e : 0 <= c0n a b := by unfold c0n; rw [if_neg h1]; split <;> omega
  rw [show a1r a b = false by simpa using h1]
  generalize c0n a b = c at *
  refine Runs.mk a0k Tryz.call37 Tryz.func37 rfl Tryz.ntmps37 Tryz.results37 rfl ?_
  (repeat' (first
  | refine SP ?_
  | ((first | apply a0t (hc) ); exact AS)
  | (apply a0v []; (focus (iterate 2 (all_goals (repeat' (first | exact trivial | refine And.intro ?_ ?_ | refine a1m ?_ ))))); any_goals (apply a0e; rfl))
  ))
  all_goals exact decide_eq_false (by omega)
end Go.Vx.L58
namespace Go.Vx.L58
theorem b18 {α : Type} {p q : α -> Bool} (h : ∀ x, p x = true -> q x = true) : ∀ {l : List α}, (∃ x, x ∈ l /\ q x = true /\ p x = false) -> l.countP p < l.countP q
 | [], ⟨_, h1, _⟩ => by cases h1
 | a :: l, ⟨x, h1, h2, h3⟩ => by
  have hle : l.countP p <= l.countP q := List.countP_mono_left fun x _ => h x
  rw [List.countP_cons, List.countP_cons]
  rcases List.mem_cons.1 h1 with rfl | h1
  ·rw [h2, h3]; simp; omega
  ·have ih := b18 h ⟨x, h1, h2, h3⟩
   cases hp : p a
   ·simp; omega
   ·rw [h a hp]; simp; omega
theorem c7w {G : NetP} (hG : G.OK) {D : Nat -> Nat -> Int} (hD : G.Dst D) {i : Nat} (hi : i < G.n) : ∀ (k : Nat) (y : Nat), y < G.n -> D i y = k -> k + 1 <= (List.range G.n).countP (fun z => decide (0 <= D i z) && decide (D i z <= k))
 | 0, y, hy, hk => by
  have : 0 < (List.range G.n).countP (fun z => decide (0 <= D i z) && decide (D i z <= (0 : Nat))) := by
   rw [List.countP_pos_iff]
   exact ⟨y, List.mem_range.2 hy, by simp; omega⟩
  omega
 | k + 1, y, hy, hk => by
  obtain ⟨p, z, q, hp, hz⟩ := hD.back i y hi hy (by omega)
  obtain ⟨⟨_, hzn⟩, _⟩ := hG.pe_ok _ _ _ _ hp
  have ih := c7w hG hD hi k z hzn (by omega)
  have := b18 (p := fun z => decide (0 <= D i z) && decide (D i z <= k)) (q := fun z => decide (0 <= D i z) && decide (D i z <= (k + 1 : Nat)))
   (fun x h => by simp only [Bool.and_eq_true, decide_eq_true_eq] at h ⊢; omega) (l := List.range G.n) ⟨y, List.mem_range.2 hy, by simp; omega, by
    rw [Bool.and_eq_false_iff]; right; exact decide_eq_false (by omega)⟩
  omega
theorem b88 {G : NetP} (hG : G.OK) {D : Nat -> Nat -> Int} (hD : G.Dst D) {i y : Nat} (hi : i < G.n) (hy : y < G.n) : D i y < G.n := by
 by_cases h : 0 <= D i y
 ·obtain ⟨k, hk⟩ := Int.eq_ofNat_of_zero_le h
  have h1 := c7w hG hD hi k y hy hk
  have h2 := List.countP_le_length (p := fun z => decide (0 <= D i z) && decide (D i z <= k)) (l := List.range G.n)
  rw [List.length_range] at h2
  omega
 ·omega
def b4x (ow : Nat -> DS) (d : Nat -> Int) (x : Nat) : Nat -> Nat × Int
 | 0 => (x, 0)
 | i + 1 => if 0 <= d i /\ a1r (ow i) (ow (b4x ow d x i).1) = true then (i, d i) else b4x ow d x i
theorem c1k {G : NetP} (hG : G.OK) {i j : Nat} (hi : i < G.n) (hj : j < G.n) (hij : i ≠ j) : a1r (G.ow i) (G.ow j) = ltM (G.ow i) (G.ow j) := by
 cases h : ltM (G.ow i) (G.ow j)
 ·cases h2 : ltM (G.ow j) (G.ow i)
  ·exfalso
   have := a6p (a := (G.ow i).mk6) (b := (G.ow j).mk6) rfl h h2
   have := c0p this
   rw [hG.gm, hG.gm] at this
   exact hij (hG.inj i j hi hj this)
  ·exact a43 h2
 ·exact a4e h
theorem c09 {a b c : DS} (h : ltM a b = true) (g : ltM b c = true) : ltM a c = true := a6f h g
theorem c6u {G : NetP} (hG : G.OK) {i j : Nat} (hi : i < G.n) (hj : j < G.n) (hij : i ≠ j) (h : ltM (G.ow i) (G.ow j) = false) : ltM (G.ow j) (G.ow i) = true := by
 cases h2 : ltM (G.ow j) (G.ow i)
 ·exfalso
  have := a6p (a := (G.ow i).mk6) (b := (G.ow j).mk6) rfl h h2
  have := c0p this
  rw [hG.gm, hG.gm] at this
  exact hij (hG.inj i j hi hj this)
 ·rfl
theorem b4a {G : NetP} (hG : G.OK) {D : Nat -> Nat -> Int} (hD : G.Dst D) {x : Nat} (hx : x < G.n) : ∀ i, i <= G.n -> (b4x G.ow (D x) x i).1 < G.n /\ 0 <= D x (b4x G.ow (D x) x i).1 /\ (b4x G.ow (D x) x i).2 = D x (b4x G.ow (D x) x i).1 /\
  ∀ j, (j < i \/ j = x) -> 0 <= D x j -> j ≠ (b4x G.ow (D x) x i).1 -> ltM (G.ow (b4x G.ow (D x) x i).1) (G.ow j) = true
 | 0, _ => by
  refine ⟨hx, by show 0 <= D x x; rw [hD.zero x hx]; omega, (hD.zero x hx).symm, fun j hj _ hn => ?_⟩
  rcases hj with hj | rfl
  ·omega
  ·exact absurd rfl hn
 | i + 1, hi => by
  obtain ⟨h1, h2, h3, h4⟩ := b4a hG hD hx i (by omega)
  generalize hc : b4x G.ow (D x) x i = c at *
  have e : b4x G.ow (D x) x (i + 1) = if 0 <= D x i /\ a1r (G.ow i) (G.ow c.1) = true then (i, D x i) else c := by rw [<- hc]; rfl
  by_cases h : 0 <= D x i /\ a1r (G.ow i) (G.ow c.1) = true
  ·rw [e, if_pos h]
   have hne : i ≠ c.1 := fun e => by rw [e, b4b] at h; exact absurd h.2 (by simp)
   have hlt : ltM (G.ow i) (G.ow c.1) = true := by rw [<- c1k hG (by omega) h1 hne]; exact h.2
   refine ⟨by show i < G.n; omega, h.1, rfl, fun j hj hd hn => ?_⟩
   show ltM (G.ow i) (G.ow j) = true
   by_cases hjc : j = c.1
   ·rw [hjc]; exact hlt
   ·refine c09 hlt (h4 j ?_ hd hjc)
    rcases hj with hj | hj
    ·by_cases hji : j = i
     ·exact absurd hji hn
     ·exact .inl (by omega)
    ·exact .inr hj
  ·rw [e, if_neg h]
   refine ⟨h1, h2, h3, fun j hj hd hn => ?_⟩
   by_cases hji : j = i
   ·subst hji
    have hf : ltM (G.ow j) (G.ow c.1) = false := by
     rw [<- c1k hG (by omega) h1 hn]
     cases hl : a1r (G.ow j) (G.ow c.1)
     ·rfl
     ·exact absurd ⟨hd, hl⟩ h
    exact c6u hG (by omega) h1 hn hf
   ·exact h4 j (hj.imp (by omega) id) hd hn
theorem b6m {G : NetP} (hG : G.OK) {D : Nat -> Nat -> Int} (hD : G.Dst D) (hs : ∀ i j, i < G.n -> j < G.n -> D i j = D j i) {x : Nat} (hx : x < G.n) : G.Best D (b4x G.ow (D x) x G.n).1 /\ (b4x G.ow (D x) x G.n).2 = D (b4x G.ow (D x) x G.n).1 x /\ 0 <= D (b4x G.ow (D x) x G.n).1 x := by
 obtain ⟨h1, h2, h3, h4⟩ := b4a hG hD hx G.n (Nat.le_refl _)
 generalize b4x G.ow (D x) x G.n = c at *
 refine ⟨⟨h1, fun i hi hd hn => h4 i (.inl hi) ?_ hn⟩, by rw [h3, hs x c.1 hx h1], by rw [hs c.1 x h1 hx]; exact h2⟩
 exact hD.comp x i c.1 hx hi h1 h2 (by rw [hs i c.1 hi h1]; exact hd)
end Go.Vx.L58
set_option maxRecDepth 100000
namespace Go.Vx.L58
open Go Go.Proofs
def hasB (n : Int) (l : List Ed) (a : Int) : Bool := decide (ckC n l = 0 /\ 0 <= a /\ a < n)
theorem c79 (n : Int) (l : List Ed) (cap : Option Nat) (hl : l.length <= maxLen) (a : Int) :
  Runs Tryz.prog 73 [gA n l cap, .val (.int .i64 a)] [gB l] (Det (.sb (hasB n l a)) [gB l]) := by
 refine Runs.mk a0k Tryz.call73 Tryz.func73 rfl Tryz.ntmps73 Tryz.results73 rfl ?_
 (repeat' (first
  | refine SP ?_
  | (apply a0a <;> intro hb <;> (try simp only [nS, nT, eq_self, reduceCtorEq] at hb))
  | ((first | apply a1z (a68 _ _ _ hl) ); exact AS; (try (any_goals fail)))
  | (apply a0v [some 0]; (focus (iterate 2 (all_goals (repeat' (first | exact trivial | refine SP ?_ | refine And.intro ?_ ?_ | exact a0j rfl rfl rfl | refine a1m ?_ | refine a0w ?_ ))))); any_goals (apply a0e; rfl))
  ))
 all_goals (simp_all [hasB] <;> omega)
def a2d : List Ed -> Int -> Int -> Int × Int × Bool
 | [], _, _ => (0, 0, false)
 | e :: r, a, p => if e.a = a /\ e.pa = p then (e.b, e.pb, true) else if e.b = a /\ e.pb = p then (e.a, e.pa, true) else a2d r a p
def a1h (n : Int) (l : List Ed) (a p : Int) : Int × Int × Bool := if hasB n l a then a2d l a p else (0, 0, false)
abbrev d4i (x : Int × Int × Bool) : AV := .tup [.val (.int .i64 x.1), .val (.int .i64 x.2.1), .sb x.2.2]
theorem d0a (n : Int) (l : List Ed) (cap : Option Nat) (hl : l.length <= maxLen) (a p : Int) :
  Runs Tryz.prog 72 [gA n l cap, .val (.int .i64 a), .val (.int .i64 p)] [gB l] (Det (d4i (a1h n l a p)) [gB l]) := by
 have hmx : maxLen = 9223372036854775807 := by decide
 refine Runs.mk a0k Tryz.call72 Tryz.func72 rfl Tryz.ntmps72 Tryz.results72 rfl ?_
 (repeat' (first
  | refine SP ?_
  | (apply a0a <;> intro hb <;> (try simp only [nS, nT, eq_self, reduceCtorEq] at hb))
  | refine a0c ?_
  | ((first | apply a1z (c79 _ _ _ hl _) ); exact AS; (try (any_goals fail)))
  | (apply a0v [some 0]; (focus (iterate 2 (all_goals (repeat' (first | exact a0g | exact trivial | refine SP ?_ | refine And.intro ?_ ?_ | refine a0d ?_ ?_ | refine a1c ?_ | exact a0j rfl rfl rfl | refine a0f ?_ | refine a0w ?_ ))))); any_goals (apply a0e; rfl))
  ))
 all_goals (try (simp [a1h, hb]; done))
 refine a0p (σ := Nat) (fun x => x <= l.length /\ a2d (l.drop x) a p = a2d l a p) (fun x => ⟨[(1, .val (.int .i64 a)), (2, .val (.int .i64 p)), (16, .sl 0 4 0 l.length cap), (17, .val (.int .i64 l.length)), (18, .val (.int .i64 x))], [gB l]⟩) (fun x => l.length - x) (0) ?_ ?_ ?_
 ·simp
 ·exact LT [some 0]
 rintro k ⟨hk, ht⟩
 have hC : a1h n l a p = a2d l a p := by unfold a1h; rw [if_pos hb]
 have hd := drop_cons l k ed0
 clear hb
 (repeat' (first
  | refine SP ?_
  | (apply a0a <;> intro hb <;> (try simp only [nS, nT, eq_self, reduceCtorEq] at hb))
  | refine a0q (by decide +kernel) ?_
  | refine a0c ?_
  | refine OB ?_
  | (apply a0v [some 0]; (focus (iterate 2 (all_goals (repeat' (first | exact a0g | exact trivial | refine SP ?_ | refine And.intro ?_ ?_ | refine a0d ?_ ?_ | refine a1c ?_ | exact a0j rfl rfl rfl | refine a0f ?_ | refine a0w ?_ ))))); any_goals (apply a0e; rfl))
  | (apply a0i (Subtype.mk (k + 1) _); (focus (apply a04 [some 0]; (focus (iterate 2 (all_goals (repeat' (first | exact trivial | refine SP ?_ | refine And.intro ?_ ?_ | exact a0r rfl rfl rfl | exact a0b _ _ | exact a0j rfl rfl rfl | ((refine a0f ?_); first | with_reducible rfl | omega | ((try simp only [wS]); omega) | rfl) ))))); any_goals (apply a0e; rfl))); (all_goals (try (first | (simp only; omega)))))
  ))
 all_goals (try simp only [Nat.zero_add, Int.toNat_natCast] at *)
 all_goals (try rw [hC])
 all_goals (rw [<- ht])
 all_goals first
  | (rw [hd (by omega)]; simp_all [a2d]; done)
  | (rw [List.drop_of_length_le (by omega)]; rfl)
  | fail
abbrev iB (rw : Bool) (l : List Int) : Blk := .arr rw 3 1 l.length (a2v l)
end Go.Vx.L58
set_option maxRecDepth 100000
namespace Go.Vx.L58
open Go Go.Proofs
def pbC (o : Option DS) : List AV := .sb o.isSome :: dC (o.getD default)
instance : FlatC pbC := ⟨fun x v h => by simp [pbC, dC] at h; rcases h with rfl | rfl | rfl | rfl | rfl | rfl | rfl | rfl | rfl | rfl | rfl | rfl <;> trivial⟩
abbrev pbF (l : List (Option DS)) : Nat -> Nat -> AV := a2e pbC none l
abbrev pB (l : List (Option DS)) : Blk := .arr false 206 12 l.length (pbF l)
def wfP (l : List (Option DS)) : Prop := ∀ i, wfD (a1p l i) /\ 0 <= (a1p l i).st /\ (a1p l i).st <= 1000000
theorem b13 (ps : List (Option DS)) (x : Nat) : -1 <= bst ps x /\ bst ps x < x := by
 rcases a9c ps x with ⟨h, _⟩ | ⟨h, _⟩ <;> omega
set_option maxHeartbeats 1000000 in
theorem c5j (ps : List (Option DS)) (cap : Option Nat) (hn : ps.length <= 1000) (hw : wfP ps) : Runs Tryz.prog 123 [.sl 0 12 0 ps.length cap] [pB ps] (Det (.val (.int .i64 (a2w ps))) [pB ps]) := by
 refine Runs.mk a0k Tryz.call123 Tryz.func123 rfl Tryz.ntmps123 Tryz.results123 rfl ?_
 (repeat' (first
  | refine SP ?_
  | refine a0c ?_
  ))
 refine a0p (σ := Nat) (fun x => x <= ps.length) (fun x => ⟨[(0, .sl 0 12 0 ps.length cap), (3, .val (.int .i64 (bst ps x))), (6, .sl 0 12 0 ps.length cap), (7, .val (.int .i64 ps.length)), (8, .val (.int .i64 x))], [pB ps]⟩) (fun x => ps.length - x) (0) ?_ ?_ ?_
 ·omega
 ·exact LT [some 0]
 rintro x hx
 by_cases hxl : x < ps.length
 ·have hz : 0 + Int.toNat (x : Int) = x := by omega
  have hs : bst ps (x + 1) = if a3x ps x = true /\ (bst ps x < 0 \/ a1r (a1p ps x) (a1p ps (bst ps x).toNat) = true) then (x : Int) else bst ps x := rfl
  obtain ⟨b0, b1⟩ := b13 ps x
  have hl := b30 (a1p ps x) (a1p ps (bst ps x).toNat) (hw _).1 (hw _).1
  have hh : (ps.getD (0 + Int.toNat (x : Int)) none).isSome = a3x ps x := by rw [hz]
  cases hc : a3x ps x
  ·rw [hc] at hh
   rw [hc, if_neg (fun h => by cases h.1)] at hs
   generalize bst ps x = b at *
   (repeat' (first
  | refine SP ?_
  | (apply a0a <;> intro hb <;> (try simp only [nS, nT, eq_self, reduceCtorEq] at hb) <;> (try (exfalso; (first | omega | (rw [hh] at hb; cases hb)); done)))
  | refine a0q (by decide +kernel) ?_
  | refine a0c ?_
  | refine OB ?_
  | (rw [hh])
  | (apply a0i (Subtype.mk (x + 1) (by first | omega | (simp only; omega))); (focus (rw [hs]; exact LT [some 0])); (all_goals (try (first | (simp only; omega)))))
  ))
  ·rw [hc] at hh
   have hlt : ∀ y : Int, y < 0 -> bst ps x = y -> bst ps (x + 1) = x := fun y h1 h2 => by rw [hs, if_pos ⟨hc, .inl (by omega)⟩]
   have hs1 : 0 <= bst ps x -> a1r (a1p ps x) (a1p ps (bst ps x).toNat) = true -> bst ps (x + 1) = x := fun h1 h2 => by rw [hs, if_pos ⟨hc, .inr h2⟩]
   have hs0 : 0 <= bst ps x -> a1r (a1p ps x) (a1p ps (bst ps x).toNat) = false -> bst ps (x + 1) = bst ps x := fun h1 h2 => by
    rw [hs, if_neg]; rintro ⟨_, h | h⟩
    ·omega
    ·rw [h2] at h; cases h
   clear hs
   generalize bst ps x = b at *
   by_cases hb0 : b < 0
   ·have hs := hlt b hb0 rfl
    (repeat' (first
  | refine SP ?_
  | (apply a0a <;> intro hb <;> (try simp only [nS, nT, eq_self, reduceCtorEq] at hb) <;> (try (exfalso; (first | omega | (rw [hh] at hb; cases hb)); done)))
  | refine a0q (by decide +kernel) ?_
  | refine a0c ?_
  | refine OB ?_
  | (apply a0i (Subtype.mk (x + 1) (by first | omega | (simp only; omega))); (focus (rw [hs]; exact LT [some 0])); (all_goals (try (first | (simp only; omega)))))
  ))
   ·cases hd : a1r (a1p ps x) (a1p ps b.toNat)
    ·have hs := hs0 (by omega) hd
     rw [hd] at hl
     rw [<- hz, <- Nat.zero_add b.toNat] at hl
     (repeat' (first
  | refine SP ?_
  | refine a1d (by decide) ?_
  | (apply a0a <;> intro hb <;> (try simp only [nS, nT, eq_self, reduceCtorEq] at hb) <;> (try (exfalso; (first | omega | (rw [hh] at hb; cases hb)); done)))
  | refine a0q (by decide +kernel) ?_
  | refine a0c ?_
  | refine OB ?_
  | ((first | apply a1l (hl)); exact AS)
  | (apply a0i (Subtype.mk (x + 1) (by first | omega | (simp only; omega))); (focus (rw [hs]; exact LT [some 0])); (all_goals (try (first | (simp only; omega)))))
  ))
    ·have hs := hs1 (by omega) hd
     rw [hd] at hl
     rw [<- hz, <- Nat.zero_add b.toNat] at hl
     (repeat' (first
  | refine SP ?_
  | refine a18 (by first | exact beq_self_eq_true _ | decide) ?_
  | (apply a0a <;> intro hb <;> (try simp only [nS, nT, eq_self, reduceCtorEq] at hb) <;> (try (exfalso; (first | omega | (rw [hh] at hb; cases hb)); done)))
  | refine a0q (by decide +kernel) ?_
  | refine a0c ?_
  | refine OB ?_
  | ((first | apply a1l (hl)); exact AS)
  | (apply a0i (Subtype.mk (x + 1) (by first | omega | (simp only; omega))); (focus (rw [hs]; exact LT [some 0])); (all_goals (try (first | (simp only; omega)))))
  ))
 ·have hx' : x = ps.length := by omega
  subst hx'
  rw [show bst ps ps.length = a2w ps from rfl]
  (repeat' (first
  | refine SP ?_
  | (apply a0a <;> intro hb <;> (try simp only [nS, nT, eq_self, reduceCtorEq] at hb) <;> (try (exfalso; omega)))
  | exact RT [some 0]
  ))
theorem b9g (b own h : DS) (i : Nat) (hi : i < 1000) (hs : 0 <= b.st /\ b.st <= 1000000) : Runs Tryz.prog 125 [aD b, aD own, .val (.int .i64 ((i : Int) + 1)), aD h] [] (Det (aD (b2q b own i h)) []) := by
 refine Runs.mk a0k Tryz.call125 Tryz.func125 rfl Tryz.ntmps125 Tryz.results125 rfl ?_
 (repeat' (first
  | refine SP ?_
  | (apply a0a <;> intro hb <;> (try simp only [nS, nT, eq_self, reduceCtorEq] at hb) <;> (try (exfalso; omega)))
  | refine a0c ?_
  | (apply a0v []; (focus (iterate 2 (all_goals (repeat' (first | exact a0g | exact trivial | refine And.intro ?_ ?_ | refine a0d ?_ ?_ | refine a1i ?_ | exact a0b _ _ | refine a0f ?_ ))))); any_goals (apply a0e; rfl))
  ))
 all_goals exact a8c (by omega) (by omega)
theorem c0t (i b : Int) : Runs Tryz.prog 124 [.val (.int .i64 i), .ptr 0 1 0 0] [.var [.val (.int .i64 b)]] (Det (.sb (decide (i = b))) [.var [.val (.int .i64 b)]]) := by
 refine Runs.mk a0k Tryz.call124 Tryz.func124 rfl Tryz.ntmps124 Tryz.results124 rfl ?_
 (repeat' (first
  | refine SP ?_
  | exact RT [some 0]
  ))
 all_goals first | rfl | fail
theorem d3g (c : Int) : Runs Tryz.prog 121 [.val (.int .i64 c)] [] (Det (.sb (ann c)) []) := by
 refine Runs.mk a0k Tryz.call121 Tryz.func121 rfl Tryz.ntmps121 Tryz.results121 rfl ?_
 (repeat' (first
  | refine SP ?_
  | (apply a0a <;> intro hb <;> (try simp only [nS, nT, eq_self, reduceCtorEq] at hb) <;> (try (exfalso; fail; done)))
  | (apply a0v []; (focus (iterate 2 (all_goals (repeat' (first | exact trivial | refine And.intro ?_ ?_ | refine a1m ?_ | refine a0w ?_ ))))); any_goals (apply a0e; rfl))
  ))
 all_goals (unfold ann; first | (simp_all; done) | (simp_all; rfl))
def b1h (own : DS) (ps : List (Option DS)) : Nat -> List Int
 | 0 => []
 | x + 1 => b1h own ps x ++ [a4v own ps x]
theorem a2p (own : DS) (ps : List (Option DS)) : ∀ x, (b1h own ps x).length = x
 | 0 => rfl
 | x + 1 => by rw [b1h, List.length_append, a2p own ps x]; rfl
theorem a5q (own : DS) (ps : List (Option DS)) : ∀ x y, y < x -> (b1h own ps x).getD y 0 = a4v own ps y
 | 0, y, h => by omega
 | x + 1, y, h => by
  rw [b1h, List.getD_eq_getElem?_getD]
  have hl := a2p own ps x
  by_cases hy : y < x
  ·rw [List.getElem?_append_left (by omega), <- List.getD_eq_getElem?_getD, a5q own ps x y hy]
  ·have : y = x := by omega
   subst this
   rw [List.getElem?_append_right (by omega), hl, Nat.sub_self]; rfl
abbrev a7s (own : DS) (ps : List (Option DS)) : List Int := b1h own ps ps.length
theorem d2q {b own h : DS} {i : Nat} (hb : wfD b) (ho : wfD own) (hh : wfD h) (hi : i < 1000) (hs : 0 <= b.st /\ b.st <= 1000000) : wfD (b2q b own i h) := by
 obtain ⟨h0, h1, h2, h3, h4, h5, h6, h7, h8, h9, h10⟩ := hb
 refine ⟨h0, h1, h2, h3, h4, h5, ?_, ho.se, ?_, hh.re, ?_⟩
 ·show inI (b.st + 1); unfold inI; omega
 ·show inI ((i : Int) + 1); unfold inI; omega
 ·show inI ((i : Int) + 1); unfold inI; omega
set_option maxHeartbeats 4000000 in
theorem b0i (own : DS) (ps : List (Option DS)) (cap : Option Nat) (hn : ps.length <= 8) (hw : wfP ps) (ho : wfD own) (hcl : 127 < own.cl) :
  Runs Tryz.prog 83 [aD own, .sl 0 12 0 ps.length cap] [pB ps] (Det (.tup [.sl 1 1 0 ps.length none, .val (.int .i64 0)]) [pB ps, iB true (a7s own ps)]) := by
 have hle := c5j ps cap (by omega) hw
 obtain ⟨b0, b1⟩ := b13 ps ps.length
 rw [show bst ps ps.length = a2w ps from rfl] at b0 b1
 have hcl2 := a2p own ps
 refine Runs.mk a0k Tryz.call83 Tryz.func83 rfl Tryz.ntmps83 Tryz.results83 rfl ?_
 (repeat' (first
  | refine SP ?_
  | (apply a0a <;> intro hb <;> (try simp only [nS, nT, eq_self, reduceCtorEq] at hb) <;> (try (exfalso; omega)))
  | refine a0c ?_
  | refine OB ?_
  | ((first | apply a1z (hle) ); exact AS; (try (any_goals fail)))
  ))
 refine a0p (σ := Nat) (fun x => x <= ps.length) (fun x => ⟨[(1, .sl 0 12 0 ps.length cap), (2, .ptr 1 11 0 0), (6, .ptr 2 1 0 0), (7, .fn (.func 124) [.ptr 2 1 0 0]), (8, .sl 3 1 0 x none), (21, .sl 0 12 0 ps.length cap), (22, .val (.int .i64 ps.length)), (23, .val (.int .i64 x))], [pB ps, .var (dC own), .var [.val (.int .i64 (a2w ps))], iB true (b1h own ps x)]⟩) (fun x => ps.length - x) (0) ?_ ?_ ?_
 ·omega
 ·(apply a04 [some 0, some 1, some 2, some 3]; (focus (iterate 2 (all_goals (repeat' (first | exact a0g | exact trivial | refine SP ?_ | refine And.intro ?_ ?_ | refine a0d ?_ ?_ | refine c1a ?_ | refine a09 ?_ | exact a0z rfl rfl | exact a0r rfl rfl rfl | exact a0b _ _ | exact a0j rfl rfl rfl ))))); any_goals (apply a0e; rfl))
  all_goals exact d2w (L' := []) c1z rfl rfl
 rintro x hx
 have hlx := hcl2 x
 have hsx : b1h own ps (x + 1) = b1h own ps x ++ [a4v own ps x] := rfl
 by_cases hxl : x < ps.length
 ·have hz : 0 + Int.toNat (x : Int) = x := by omega
  generalize b1h own ps x = C at *
  cases hS : a2u own ps
  ·have hS' := hS
   unfold a2u at hS'
   rw [Bool.or_eq_false_iff, decide_eq_false_iff_not] at hS'
   obtain ⟨s1, s2⟩ := hS'
   have hl1 := b30 own (a1p ps (a2w ps).toNat) ho (hw _).1
   rw [s2] at hl1
   have hwf := d2q (i := x) (hw (a2w ps).toNat).1 ho (hw x).1 (by omega) (hw (a2w ps).toNat).2
   have hfu := b9g (a1p ps (a2w ps).toNat) own (a1p ps x) x (by omega) (hw _).2
   have hl2 := b30 _ (a1p ps x) hwf (hw x).1
   have hco : a4v own ps x = if (x : Int) = a2w ps then 6 else if a3x ps x = false \/ a1r (b2q (a1p ps (a2w ps).toNat) own x (a1p ps x)) (a1p ps x) = true then 3 else 5 := by
    unfold a4v; rw [if_neg (by rw [hS]; simp)]
   have hib := c0t x (a2w ps)
   by_cases hxb : (x : Int) = a2w ps
   ·rw [if_pos hxb] at hco
    rw [hco] at hsx
    rw [decide_eq_true hxb] at hib
    clear hl2 hfu hwf hco
    generalize a2w ps = b at *
    rw [<- Nat.zero_add b.toNat] at hl1
    (repeat' (first
  | refine SP ?_
  | (with_reducible refine a01 ?_)
  | (with_reducible refine a07 ?_)
  | (apply a0a <;> intro hb <;> (try simp only [nS, nT, eq_self, reduceCtorEq] at hb) <;> (try (exfalso; omega)))
  | refine a0q (by decide +kernel) ?_
  | refine a0c ?_
  | refine OB ?_
  | ((first | apply a1l (hl1)); exact AS)
  | ((first | apply a1z (hib) ); exact AS; (try (any_goals fail)))
  | (apply a0i (Subtype.mk (x + 1) (by first | omega | (simp only; omega))); (focus (rw [hsx]; apply a04 [some 0, some 1, some 2, some _]; exact AS; any_goals (apply a0e; rfl))); (all_goals (try (first | (simp only; omega)))))
  ))
   ·rw [if_neg hxb] at hco
    rw [decide_eq_false hxb] at hib
    cases hc : a3x ps x
    ·rw [if_pos (.inl hc)] at hco
     rw [hco] at hsx
     have hh : (ps.getD (0 + Int.toNat (x : Int)) none).isSome = false := by rw [hz]; exact hc
     clear hl2 hfu hwf hco
     generalize a2w ps = b at *
     rw [<- Nat.zero_add b.toNat] at hl1
     (repeat' (first
  | refine SP ?_
  | (with_reducible refine a07 ?_)
  | (apply a0a <;> intro hb <;> (try simp only [nS, nT, eq_self, reduceCtorEq] at hb) <;> (try (exfalso; (first | omega | (rw [hh] at hb; cases hb)); done)))
  | refine a0q (by decide +kernel) ?_
  | refine a0c ?_
  | refine OB ?_
  | ((first | apply a1l (hl1)); exact AS)
  | ((first | apply a1z (hib) ); exact AS; (try (any_goals fail)))
  | (apply a0i (Subtype.mk (x + 1) (by first | omega | (simp only; omega))); (focus (rw [hsx]; apply a04 [some 0, some 1, some 2, some _]; exact AS; any_goals (apply a0e; rfl))); (all_goals (try (first | (simp only; omega)))))
  ))
    ·have hh : (ps.getD (0 + Int.toNat (x : Int)) none).isSome = true := by rw [hz]; exact hc
     cases hd : a1r (b2q (a1p ps (a2w ps).toNat) own x (a1p ps x)) (a1p ps x)
     ·rw [if_neg (by rw [hc, hd]; simp)] at hco
      rw [hco] at hsx
      rw [hd] at hl2
      clear hwf hco hd
      generalize a2w ps = b at *
      have hfu' : Runs Tryz.prog 125 [aD (a1p ps (0 + b.toNat)), aD own, .val (.int .i64 ((x : Int) + 1)), aD (a1p ps (0 + Int.toNat (x : Int)))] [] (Det (aD (b2q (a1p ps b.toNat) own x (a1p ps x))) []) := by rw [hz, Nat.zero_add]; exact hfu
      clear hfu
      generalize b2q (a1p ps b.toNat) own x (a1p ps x) = F at *
      rw [<- Nat.zero_add b.toNat] at hl1
      rw [<- hz] at hl2
      (repeat' (first
  | refine SP ?_
  | (with_reducible refine a07 ?_)
  | (apply a0a <;> intro hb <;> (try simp only [nS, nT, eq_self, reduceCtorEq] at hb) <;> (try (exfalso; (first | omega | (rw [hh] at hb; cases hb)); done)))
  | refine a0q (by decide +kernel) ?_
  | refine a0c ?_
  | refine OB ?_
  | ((first | apply a1l (hl1)); exact AS)
  | ((first | apply a1z (hib) ); exact AS; (try (any_goals fail)))
  | ((first | apply a1l (hfu')); exact AS)
  | ((first | apply a1l (hl2)); exact AS)
  | (apply a0i (Subtype.mk (x + 1) (by first | omega | (simp only; omega))); (focus (rw [hsx]; apply a04 [some 0, some 1, some 2, some _]; exact AS; any_goals (apply a0e; rfl))); (all_goals (try (first | (simp only; omega)))))
  ))
     ·rw [if_pos (.inr hd)] at hco
      rw [hco] at hsx
      rw [hd] at hl2
      clear hwf hco hd
      generalize a2w ps = b at *
      have hfu' : Runs Tryz.prog 125 [aD (a1p ps (0 + b.toNat)), aD own, .val (.int .i64 ((x : Int) + 1)), aD (a1p ps (0 + Int.toNat (x : Int)))] [] (Det (aD (b2q (a1p ps b.toNat) own x (a1p ps x))) []) := by rw [hz, Nat.zero_add]; exact hfu
      clear hfu
      generalize b2q (a1p ps b.toNat) own x (a1p ps x) = F at *
      rw [<- Nat.zero_add b.toNat] at hl1
      rw [<- hz] at hl2
      (repeat' (first
  | refine SP ?_
  | (with_reducible refine a01 ?_)
  | (with_reducible refine a07 ?_)
  | (apply a0a <;> intro hb <;> (try simp only [nS, nT, eq_self, reduceCtorEq] at hb) <;> (try (exfalso; (first | omega | (rw [hh] at hb; cases hb)); done)))
  | refine a0q (by decide +kernel) ?_
  | refine a0c ?_
  | refine OB ?_
  | ((first | apply a1l (hl1)); exact AS)
  | ((first | apply a1z (hib) ); exact AS; (try (any_goals fail)))
  | ((first | apply a1l (hfu')); exact AS)
  | ((first | apply a1l (hl2)); exact AS)
  | (apply a0i (Subtype.mk (x + 1) (by first | omega | (simp only; omega))); (focus (rw [hsx]; apply a04 [some 0, some 1, some 2, some _]; exact AS; any_goals (apply a0e; rfl))); (all_goals (try (first | (simp only; omega)))))
  ))
  ·have hco : a4v own ps x = 2 := by unfold a4v; rw [if_pos hS]
   rw [hco] at hsx
   unfold a2u at hS
   rw [Bool.or_eq_true, decide_eq_true_eq] at hS
   by_cases hb0 : a2w ps < 0
   ·clear hS hco
    generalize a2w ps = b at *
    (repeat' (first
  | refine SP ?_
  | (apply a0a <;> intro hb <;> (try simp only [nS, nT, eq_self, reduceCtorEq] at hb) <;> (try (exfalso; omega)))
  | refine a0q (by decide +kernel) ?_
  | refine a0c ?_
  | refine OB ?_
  | (apply a0i (Subtype.mk (x + 1) (by first | omega | (simp only; omega))); (focus (rw [hsx]; apply a04 [some 0, some 1, some 2, some _]; exact AS; any_goals (apply a0e; rfl))); (all_goals (try (first | (simp only; omega)))))
  ))
   ·have s2 := hS.resolve_left hb0
    have hl1 := b30 own (a1p ps (a2w ps).toNat) ho (hw _).1
    rw [s2] at hl1
    clear hS hco s2
    generalize a2w ps = b at *
    rw [<- Nat.zero_add b.toNat] at hl1
    (repeat' (first
  | refine SP ?_
  | (with_reducible refine a01 ?_)
  | (apply a0a <;> intro hb <;> (try simp only [nS, nT, eq_self, reduceCtorEq] at hb) <;> (try (exfalso; omega)))
  | refine a0q (by decide +kernel) ?_
  | refine a0c ?_
  | refine OB ?_
  | ((first | apply a1l (hl1)); exact AS)
  | (apply a0i (Subtype.mk (x + 1) (by first | omega | (simp only; omega))); (focus (rw [hsx]; apply a04 [some 0, some 1, some 2, some _]; exact AS; any_goals (apply a0e; rfl))); (all_goals (try (first | (simp only; omega)))))
  ))
 ·have hx' : x = ps.length := by omega
  subst hx'
  (repeat' (first
  | refine SP ?_
  | (apply a0a <;> intro hb <;> (try simp only [nS, nT, eq_self, reduceCtorEq] at hb) <;> (try (exfalso; omega)))
  | exact RT [some 0, some 3]
  ))
end Go.Vx.L58

/- Lemmas of a small executor for the model, and contracts of functions, used for the law that this claim proves. No condition. -/
set_option linter.unusedSimpArgs false
set_option linter.unusedVariables false
namespace Go.Vx.L58
structure DS where
 p1 : Int
 cl : Int
 ac : Int
 va : Int
 p2 : Int
 gm : Int
 st : Int
 se : Int
 sp : Int
 re : Int
 rp : Int
 deriving DecidableEq, Inhabited
def DS.mk6 (d : DS) : List Int := [d.p1, d.cl, d.ac, d.va, d.p2, d.gm]
def DS.tl5 (d : DS) : List Int := [d.st, d.se, d.sp, d.re, d.rp]
def DS.ks (d : DS) : List Int := d.mk6 ++ d.tl5
def lexB : List Int → List Int → Bool
 | a :: x, b :: y => if a < b then true else if b < a then false else lexB x y
 | _, _ => false
def lessD (a b : DS) : Bool := lexB a.ks b.ks
theorem lexB_irr : ∀ a : List Int, lexB a a = false
 | [] => rfl
 | a :: x => by simp [lexB, lexB_irr x]
theorem lexB_trans : ∀ {a b c : List Int}, lexB a b = true → lexB b c = true → lexB a c = true
 | [], _, _, h, _ => by simp [lexB] at h
 | a :: x, [], _, h, _ => by simp [lexB] at h
 | a :: x, b :: y, [], _, h => by simp [lexB] at h
 | a :: x, b :: y, c :: z, h, g => by
  simp only [lexB] at h g ⊢
  by_cases h1 : a < b
  ·by_cases g1 : b < c
   ·rw [if_pos (by omega)]
   ·rw [if_neg g1] at g
    by_cases g2 : c < b
    ·rw [if_pos g2] at g; cases g
    ·rw [if_pos (by omega)]
  ·rw [if_neg h1] at h
   by_cases h2 : b < a
   ·rw [if_pos h2] at h; cases h
   ·rw [if_neg h2] at h
    by_cases g1 : b < c
    ·rw [if_pos (by omega)]
    ·rw [if_neg g1] at g
     by_cases g2 : c < b
     ·rw [if_pos g2] at g; cases g
     ·rw [if_neg g2] at g
      rw [if_neg (by omega), if_neg (by omega)]
      exact lexB_trans h g
theorem lexB_total : ∀ {a b : List Int}, a.length = b.length → lexB a b = false → lexB b a = false → a = b
 | [], [], _, _, _ => rfl
 | [], _ :: _, h, _, _ => by simp at h
 | _ :: _, [], h, _, _ => by simp at h
 | a :: x, b :: y, hl, h, g => by
  simp only [lexB] at h g
  by_cases h1 : a < b
  ·rw [if_pos h1] at h; cases h
  ·rw [if_neg h1] at h
   by_cases h2 : b < a
   ·rw [if_pos h2] at g; cases g
   ·rw [if_neg h2] at h
    rw [if_neg h2, if_neg h1] at g
    rw [show a = b by omega, lexB_total (by simpa using hl) h g]
theorem lexB_app : ∀ {a b x y : List Int}, a.length = b.length → lexB (a ++ x) (b ++ y) = if lexB a b = true then true else if lexB b a = true then false else lexB x y
 | [], [], x, y, _ => by simp [lexB]
 | [], _ :: _, _, _, h => by simp at h
 | _ :: _, [], _, _, h => by simp at h
 | a :: u, b :: v, x, y, hl => by
  have ih := lexB_app (a := u) (b := v) (x := x) (y := y) (by simpa using hl)
  simp only [List.cons_append, lexB]
  by_cases h1 : a < b
  ·simp [h1]
  ·by_cases h2 : b < a
   ·simp [h1, h2]
   ·simp only [if_neg h1, if_neg h2]; exact ih
def ltM (a b : DS) : Bool := lexB a.mk6 b.mk6
theorem less_of_ltM {a b : DS} (h : ltM a b = true) : lessD a b = true := by
 unfold ltM at h
 unfold lessD DS.ks; rw [lexB_app (a := a.mk6) (b := b.mk6) rfl, if_pos h]
theorem less_false_of_ltM {a b : DS} (h : ltM b a = true) : lessD a b = false := by
 unfold ltM at h
 unfold lessD DS.ks; rw [lexB_app (a := a.mk6) (b := b.mk6) rfl]
 have : lexB a.mk6 b.mk6 ≠ true := fun g => by
  have := lexB_trans g h; rw [lexB_irr] at this; cases this
 rw [if_neg this, if_pos h]
theorem less_of_st {a b : DS} (h : a.mk6 = b.mk6) (hs : a.st < b.st) : lessD a b = true := by
 unfold lessD DS.ks; rw [lexB_app (a := a.mk6) (b := b.mk6) rfl, h, lexB_irr, if_neg (by simp), if_neg (by simp)]
 simp [DS.tl5, lexB, hs]
theorem less_cases {a b : DS} (h : lessD a b = false) : ltM b a = true ∨ (a.mk6 = b.mk6 ∧ b.st ≤ a.st) := by
 by_cases h1 : ltM b a = true
 ·exact .inl h1
 ·by_cases h2 : ltM a b = true
  ·rw [less_of_ltM h2] at h; cases h
  ·have e : a.mk6 = b.mk6 := lexB_total rfl (by simpa [ltM] using h2) (by simpa [ltM] using h1)
   refine .inr ⟨e, ?_⟩
   by_cases h3 : a.st < b.st
   ·rw [less_of_st e h3] at h; cases h
   ·omega
theorem lessD_trans {a b c : DS} (h : lessD a b = true) (g : lessD b c = true) : lessD a c = true := lexB_trans h g
theorem lessD_irr (a : DS) : lessD a a = false := lexB_irr _
abbrev dsAt (ps : List (Option DS)) (i : Nat) : DS := (ps.getD i none).getD default
abbrev hasAt (ps : List (Option DS)) (i : Nat) : Bool := (ps.getD i none).isSome
def bst (ps : List (Option DS)) : Nat → Int
 | 0 => -1
 | x + 1 => if hasAt ps x = true ∧ (bst ps x < 0 ∨ lessD (dsAt ps x) (dsAt ps (bst ps x).toNat) = true) then (x : Int) else bst ps x
theorem bst_spec (ps : List (Option DS)) : ∀ x, (bst ps x = -1 ∧ ∀ i, i < x → hasAt ps i = false) ∨ ((0 ≤ bst ps x ∧ bst ps x < x) ∧ hasAt ps (bst ps x).toNat = true ∧ ∀ i, i < x → hasAt ps i = true → lessD (dsAt ps i) (dsAt ps (bst ps x).toNat) = false)
 | 0 => .inl ⟨rfl, fun i h => by omega⟩
 | x + 1 => by
  have ih := bst_spec ps x
  by_cases h : hasAt ps x = true ∧ (bst ps x < 0 ∨ lessD (dsAt ps x) (dsAt ps (bst ps x).toNat) = true)
  ·have e : bst ps (x + 1) = x := by simp only [bst]; rw [if_pos h]
   rw [e]
   refine .inr ⟨by omega, by simpa using h.1, fun i hi hh => ?_⟩
   rw [Int.toNat_natCast]
   by_cases hix : i = x
   ·rw [hix, lessD_irr]
   ·rcases ih with ⟨e1, e2⟩ | ⟨e1, e2, e3⟩
    ·have := e2 i (by omega); rw [hh] at this; cases this
    ·rcases h.2 with h2 | h2
     ·omega
     ·have h3 := e3 i (by omega) hh
      cases hc : lessD (dsAt ps i) (dsAt ps x)
      ·rfl
      ·rw [lessD_trans hc h2] at h3; cases h3
  ·have e : bst ps (x + 1) = bst ps x := by simp only [bst]; rw [if_neg h]
   rw [e]
   rcases ih with ⟨e1, e2⟩ | ⟨e1, e2, e3⟩
   ·refine .inl ⟨e1, fun i hi => ?_⟩
    by_cases hix : i = x
    ·subst hix
     cases hc : hasAt ps i
     ·rfl
     ·exact absurd ⟨hc, .inl (by omega)⟩ h
    ·exact e2 i (by omega)
   ·refine .inr ⟨by omega, e2, fun i hi hh => ?_⟩
    by_cases hix : i = x
    ·subst hix
     cases hc : lessD (dsAt ps i) (dsAt ps (bst ps i).toNat)
     ·rfl
     ·exact absurd ⟨hh, .inr hc⟩ h
    ·exact e3 i (by omega) hh
def furD (b own : DS) (i : Nat) (h : DS) : DS := { b with st := b.st + 1, se := own.se, sp := i + 1, rp := i + 1, re := h.re }
def bstL (ps : List (Option DS)) : Int := bst ps ps.length
def selfD (own : DS) (ps : List (Option DS)) : Bool := decide (bstL ps < 0) || lessD own (dsAt ps (bstL ps).toNat)
def codD (own : DS) (ps : List (Option DS)) (i : Nat) : Int :=
 if selfD own ps = true then 2 else if (i : Int) = bstL ps then 6 else
  if hasAt ps i = false ∨ lessD (furD (dsAt ps (bstL ps).toNat) own i (dsAt ps i)) (dsAt ps i) = true then 3 else 5
def folD (own : DS) (ps : List (Option DS)) : DS := if selfD own ps = true then own else dsAt ps (bstL ps).toNat
abbrev Mem := Nat → Nat → Option (Int × DS)
structure NetP where
 n : Nat
 id : Nat → Int
 ow : Nat → DS
 pe : Nat → Nat → Option (Nat × Nat)
structure NetP.OK (G : NetP) : Prop where
 pe_ok : ∀ x p y q, G.pe x p = some (y, q) → (x < G.n ∧ y < G.n) ∧ (1 ≤ p ∧ p ≤ 8) ∧ (1 ≤ q ∧ q ≤ 8) ∧ x ≠ y ∧ G.pe y q = some (x, p)
 gm : ∀ x, (G.ow x).gm = G.id x
 st : ∀ x, (G.ow x).st = 0
 rp : ∀ x, (G.ow x).rp = 0
 inj : ∀ x y, x < G.n → y < G.n → G.id x = G.id y → x = y
def hrd (M : Mem) (x : Nat) : List (Option DS) := (List.range 8).map fun i => (M x (i + 1)).map (·.2)
def NetP.fol (G : NetP) (M : Mem) (x : Nat) : DS := folD (G.ow x) (hrd M x)
def NetP.cod (G : NetP) (M : Mem) (x i : Nat) : Int := codD (G.ow x) (hrd M x) i
def ann (c : Int) : Bool := decide (c = 1) || decide (c = 2) || decide (c = 3)
def NetP.snd (G : NetP) (M : Mem) (x p y q : Nat) : Option DS :=
 if ann (G.cod M x (p - 1)) = true then
  if G.fol M x = G.ow x then some { G.ow x with se := G.id x, sp := p, re := G.id y, rp := q }
  else if (G.fol M x).st + 1 < 32 then some { G.fol M x with st := (G.fol M x).st + 1, se := G.id x, sp := p, re := G.id y, rp := q } else none
 else none
def NetP.rnd (G : NetP) (M : Mem) : Mem := fun x p => match G.pe x p with
 | none => none
 | some (y, q) => match G.snd M y q x p with
  | some d => some (0, d)
  | none => match M x p with
   | none => none
   | some (a, d) => if a + 1 < 3 then some (a + 1, d) else none
def NetP.run (G : NetP) (M : Mem) : Nat → Mem
 | 0 => M
 | t + 1 => G.rnd (G.run M t)
def NetP.VM (G : NetP) (M : Mem) : Prop := ∀ x p a d, M x p = some (a, d) → (∃ y q, G.pe x p = some (y, q)) ∧ (0 ≤ a ∧ a < 3) ∧ (0 ≤ d.st ∧ d.st < 32) ∧ d.re = G.id x ∧ d.rp = p
theorem hrd_len (M : Mem) (x : Nat) : (hrd M x).length = 8 := by simp [hrd]
theorem hrd_get (M : Mem) (x i : Nat) (h : i < 8) : (hrd M x).getD i none = (M x (i + 1)).map (·.2) := by
 simp [hrd, List.getD_eq_getElem?_getD, h]
theorem hrd_has {M : Mem} {x i : Nat} (hi : i < 8) (h : hasAt (hrd M x) i = true) : ∃ a, M x (i + 1) = some (a, dsAt (hrd M x) i) := by
 unfold hasAt at h; unfold dsAt
 rw [hrd_get M x i hi] at h ⊢
 cases hM : M x (i + 1) with
 | none => rw [hM] at h; cases h
 | some v => exact ⟨v.1, rfl⟩
theorem has_hrd {M : Mem} {x i : Nat} {a : Int} {d : DS} (hi : i < 8) (h : M x (i + 1) = some (a, d)) : hasAt (hrd M x) i = true ∧ dsAt (hrd M x) i = d := by
 unfold hasAt dsAt
 rw [hrd_get M x i hi, h]
 exact ⟨rfl, rfl⟩
theorem bstL_spec (M : Mem) (x : Nat) : (bstL (hrd M x) = -1 ∧ ∀ p a d, 1 ≤ p → p ≤ 8 → M x p ≠ some (a, d)) ∨ (∃ b : Nat, bstL (hrd M x) = b ∧ b < 8 ∧ (∃ a, M x (b + 1) = some (a, dsAt (hrd M x) b)) ∧ ∀ p a d, 1 ≤ p → p ≤ 8 → M x p = some (a, d) → lessD d (dsAt (hrd M x) b) = false) := by
 have h := bst_spec (hrd M x) (hrd M x).length
 rw [show bst (hrd M x) (hrd M x).length = bstL (hrd M x) from rfl, hrd_len] at h
 rcases h with ⟨e1, e2⟩ | ⟨e1, e2, e3⟩
 ·refine .inl ⟨e1, fun p a d h1 h2 hM => ?_⟩
  have := e2 (p - 1) (by omega)
  rw [(has_hrd (i := p - 1) (by omega) (by rw [show p - 1 + 1 = p by omega]; exact hM)).1] at this
  cases this
 ·obtain ⟨b, hb⟩ := Int.eq_ofNat_of_zero_le e1.1
  rw [hb, Int.toNat_natCast] at e2 e3
  rw [hb] at e1
  refine .inr ⟨b, hb, by omega, hrd_has (by omega) e2, fun p a d h1 h2 hM => ?_⟩
  obtain ⟨g1, g2⟩ := has_hrd (i := p - 1) (by omega) (show M x (p - 1 + 1) = some (a, d) by rw [show p - 1 + 1 = p by omega]; exact hM)
  have := e3 (p - 1) (by omega) g1
  rw [g2] at this; exact this
theorem fol_cases (G : NetP) (M : Mem) (x : Nat) : (selfD (G.ow x) (hrd M x) = true ∧ G.fol M x = G.ow x) ∨ (selfD (G.ow x) (hrd M x) = false ∧ ∃ b : Nat, bstL (hrd M x) = b ∧ b < 8 ∧ G.fol M x = dsAt (hrd M x) b ∧ (∃ a, M x (b + 1) = some (a, G.fol M x)) ∧ lessD (G.ow x) (G.fol M x) = false ∧ ∀ p a d, 1 ≤ p → p ≤ 8 → M x p = some (a, d) → lessD d (G.fol M x) = false) := by
 by_cases h : selfD (G.ow x) (hrd M x) = true
 ·exact .inl ⟨h, by unfold NetP.fol folD; rw [if_pos h]⟩
 ·have h' : selfD (G.ow x) (hrd M x) = false := by simpa using h
  rcases bstL_spec M x with ⟨e1, _⟩ | ⟨b, e1, e2, e3, e4⟩
  ·exact absurd (by unfold selfD; rw [e1]; rfl) h
  ·have ef : G.fol M x = dsAt (hrd M x) b := by
    unfold NetP.fol folD; rw [if_neg h, e1]; rfl
   refine .inr ⟨h', b, e1, e2, ef, by rw [ef]; exact e3, ?_, by rw [ef]; exact e4⟩
   rw [ef]
   unfold selfD at h'
   rw [e1, Int.toNat_natCast, Bool.or_eq_false_iff] at h'
   exact h'.2
theorem rnd_cases {G : NetP} {M : Mem} {x p : Nat} {a : Int} {d : DS} (h : G.rnd M x p = some (a, d)) : ∃ y q, G.pe x p = some (y, q) ∧ ((a = 0 ∧ G.snd M y q x p = some d) ∨ ∃ a', M x p = some (a', d) ∧ a = a' + 1 ∧ a < 3) := by
 unfold NetP.rnd at h
 cases hp : G.pe x p with
 | none => rw [hp] at h; cases h
 | some yq =>
  obtain ⟨y, q⟩ := yq
  rw [hp] at h
  refine ⟨y, q, rfl, ?_⟩
  dsimp only at h
  cases hs : G.snd M y q x p with
  | some d' =>
   rw [hs] at h
   obtain ⟨rfl, rfl⟩ := Prod.mk.inj (Option.some.inj h)
   exact .inl ⟨rfl, rfl⟩
  | none =>
   rw [hs] at h
   dsimp only at h
   cases hM : M x p with
   | none => rw [hM] at h; cases h
   | some v =>
    rw [hM] at h
    obtain ⟨a', d'⟩ := v
    dsimp only at h
    by_cases hlt : a' + 1 < 3
    ·rw [if_pos hlt] at h
     obtain ⟨rfl, rfl⟩ := Prod.mk.inj (Option.some.inj h)
     exact .inr ⟨a', rfl, rfl, hlt⟩
    ·rw [if_neg hlt] at h; cases h
theorem snd_cases {G : NetP} {M : Mem} {x p y q : Nat} {d : DS} (h : G.snd M x p y q = some d) : (G.fol M x = G.ow x ∧ d = { G.ow x with se := G.id x, sp := (p : Int), re := G.id y, rp := (q : Int) }) ∨ (G.fol M x ≠ G.ow x ∧ (G.fol M x).st + 1 < 32 ∧ d = { G.fol M x with st := (G.fol M x).st + 1, se := G.id x, sp := (p : Int), re := G.id y, rp := (q : Int) }) := by
 unfold NetP.snd at h
 by_cases h1 : ann (G.cod M x (p - 1)) = true
 ·rw [if_pos h1] at h
  by_cases h2 : G.fol M x = G.ow x
  ·rw [if_pos h2] at h; exact .inl ⟨h2, (Option.some.inj h).symm⟩
  ·rw [if_neg h2] at h
   by_cases h3 : (G.fol M x).st + 1 < 32
   ·rw [if_pos h3] at h; exact .inr ⟨h2, h3, (Option.some.inj h).symm⟩
   ·rw [if_neg h3] at h; cases h
 ·rw [if_neg h1] at h; cases h
theorem rnd_VM {G : NetP} (hG : G.OK) {M : Mem} (hM : G.VM M) : G.VM (G.rnd M) := by
 intro x p a d h
 obtain ⟨y, q, hp, hc⟩ := rnd_cases h
 refine ⟨⟨y, q, hp⟩, ?_⟩
 rcases hc with ⟨rfl, hs⟩ | ⟨a', hm, rfl, hlt⟩
 ·rcases snd_cases hs with ⟨_, rfl⟩ | ⟨hne, hst, rfl⟩
  ·refine ⟨by omega, ?_, rfl, rfl⟩
   show 0 ≤ (G.ow y).st ∧ (G.ow y).st < 32
   rw [hG.st]; omega
  ·rcases fol_cases G M y with ⟨_, e⟩ | ⟨_, b, _, _, _, ⟨a', hm⟩, _⟩
   ·exact absurd e hne
   ·obtain ⟨_, _, h3, _⟩ := hM _ _ _ _ hm
    refine ⟨by omega, ?_, rfl, rfl⟩
    show 0 ≤ (G.fol M y).st + 1 ∧ (G.fol M y).st + 1 < 32
    omega
 ·obtain ⟨_, h2, h3, h4, h5⟩ := hM _ _ _ _ hm
  exact ⟨by omega, h3, h4, h5⟩
theorem run_VM {G : NetP} (hG : G.OK) {M : Mem} (hM : G.VM M) : ∀ t, G.VM (G.run M t)
 | 0 => hM
 | t + 1 => rnd_VM hG (run_VM hG hM t)
structure NetP.Dst (G : NetP) (D : Nat → Nat → Int) : Prop where
 low : ∀ i y, i < G.n → y < G.n → -1 ≤ D i y
 zero : ∀ i, i < G.n → D i i = 0
 zeq : ∀ i y, i < G.n → y < G.n → D i y = 0 → y = i
 edge : ∀ i x p y q, i < G.n → G.pe x p = some (y, q) → 0 ≤ D i x → 0 ≤ D i y ∧ D i y ≤ D i x + 1
 back : ∀ i x, i < G.n → x < G.n → 0 < D i x → ∃ p y q, G.pe x p = some (y, q) ∧ D i y + 1 = D i x
 comp : ∀ i j x, i < G.n → j < G.n → x < G.n → 0 ≤ D i x → 0 ≤ D j x → 0 ≤ D i j
def NetP.Good (G : NetP) (D : Nat → Nat → Int) (x p : Nat) (d : DS) : Prop := ∃ i y q, i < G.n ∧ G.pe x p = some (y, q) ∧ d.mk6 = (G.ow i).mk6 ∧ 0 ≤ D i y ∧ D i y ≤ d.st
theorem mk6_gm {a b : DS} (h : a.mk6 = b.mk6) : a.gm = b.gm := by
 unfold DS.mk6 at h
 simp only [List.cons.injEq] at h
 exact h.2.2.2.2.2.1
def NetP.AllG (G : NetP) (D : Nat → Nat → Int) (M : Mem) : Prop := ∀ x p a d, M x p = some (a, d) → G.Good D x p d
theorem good_rnd {G : NetP} (hG : G.OK) {D : Nat → Nat → Int} (hD : G.Dst D) {M : Mem} (hM : G.AllG D M) : G.AllG D (G.rnd M) := by
 intro x p a d h
 obtain ⟨y, q, hp, hc⟩ := rnd_cases h
 obtain ⟨⟨hx, hy⟩, _, _, _, hq⟩ := hG.pe_ok _ _ _ _ hp
 rcases hc with ⟨rfl, hs⟩ | ⟨a', hm, rfl, hlt⟩
 ·rcases snd_cases hs with ⟨_, rfl⟩ | ⟨hne, hst, rfl⟩
  ·refine ⟨y, y, q, hy, hp, rfl, ?_, ?_⟩
   ·rw [hD.zero y hy]; omega
   ·show D y y ≤ (G.ow y).st
    rw [hD.zero y hy, hG.st]; omega
  ·rcases fol_cases G M y with ⟨_, e⟩ | ⟨_, b, _, _, _, ⟨a', hm⟩, _⟩
   ·exact absurd e hne
   ·generalize G.fol M y = f at *
    obtain ⟨i, z, r, hi, hz, hm6, hd0, hd1⟩ := hM _ _ _ _ hm
    obtain ⟨_, _, _, _, hr⟩ := hG.pe_ok _ _ _ _ hz
    obtain ⟨g1, g2⟩ := hD.edge i z r y (b + 1) hi hr hd0
    refine ⟨i, y, q, hi, hp, hm6, g1, ?_⟩
    show D i y ≤ f.st + 1
    omega
 ·exact hM _ _ _ _ hm
theorem good_run {G : NetP} (hG : G.OK) {D : Nat → Nat → Int} (hD : G.Dst D) {M : Mem} (hM : G.AllG D M) : ∀ t, G.AllG D (G.run M t)
 | 0 => hM
 | t + 1 => good_rnd hG hD (good_run hG hD hM t)
def NetP.Best (G : NetP) (D : Nat → Nat → Int) (m : Nat) : Prop := m < G.n ∧ ∀ i, i < G.n → 0 ≤ D m i → i ≠ m → ltM (G.ow m) (G.ow i) = true
def NetP.Set1 (G : NetP) (M : Mem) (m x k : Nat) : Prop := (k = 0 ∧ selfD (G.ow x) (hrd M x) = true ∧ G.fol M x = G.ow x) ∨ (0 < k ∧ selfD (G.ow x) (hrd M x) = false ∧ (G.fol M x).mk6 = (G.ow m).mk6 ∧ (G.fol M x).st + 1 = k)
theorem good_master {G : NetP} (hG : G.OK) {D : Nat → Nat → Int} (hD : G.Dst D) {m x : Nat} (hm : G.Best D m) (hx : 0 ≤ D m x) {p : Nat} {d : DS} (hg : G.Good D x p d) :
  ltM (G.ow m) d = true ∨ (d.mk6 = (G.ow m).mk6 ∧ ∃ y q, G.pe x p = some (y, q) ∧ 0 ≤ D m y ∧ D m y ≤ d.st) := by
 obtain ⟨i, y, q, hi, hp, hm6, hd0, hd1⟩ := hg
 obtain ⟨⟨hxn, hyn⟩, _, _, _, hq⟩ := hG.pe_ok _ _ _ _ hp
 have hmy := hD.edge m x p y q hm.1 hp hx
 have hmi := hD.comp m i y hm.1 hi hyn hmy.1 hd0
 by_cases him : i = m
 ·subst him
  exact .inr ⟨hm6, y, q, hp, hd0, hd1⟩
 ·left
  have := hm.2 i hi hmi him
  unfold ltM at this ⊢
  rw [hm6]; exact this
theorem set1_zero {G : NetP} (hG : G.OK) {D : Nat → Nat → Int} (hD : G.Dst D) {m : Nat} (hm : G.Best D m) {M : Mem} (hM : G.AllG D M) : G.Set1 M m m 0 := by
 have hs : selfD (G.ow m) (hrd M m) = true := by
  by_cases h : selfD (G.ow m) (hrd M m) = true
  ·exact h
  ·rcases fol_cases G M m with ⟨e, _⟩ | ⟨_, b, e1, e2, e3, ⟨a, e4⟩, e5, e6⟩
   ·exact e
   ·exfalso
    have hg := hM _ _ _ _ e4
    rcases good_master hG hD hm (by rw [hD.zero m hm.1]; omega) hg with h1 | ⟨h1, y, q, hp, h2, h3⟩
    ·rw [less_of_ltM h1] at e5; cases e5
    ·have hym : D m y ≠ 0 := fun h0 => by
      obtain ⟨⟨_, hyn⟩, _, _, hne, _⟩ := hG.pe_ok _ _ _ _ hp
      exact hne (hD.zeq m y hm.1 hyn h0).symm
     rw [less_of_st h1.symm (by rw [hG.st]; omega)] at e5
     cases e5
 exact .inl ⟨rfl, hs, by unfold NetP.fol folD; rw [if_pos hs]⟩
theorem set1_succ {G : NetP} (hG : G.OK) {D : Nat → Nat → Int} (hD : G.Dst D) {m : Nat} (hm : G.Best D m) {M : Mem} (hM : G.AllG D M) {x k : Nat} (hxn : x < G.n) (hx : D m x = k + 1)
  {p : Nat} {a : Int} {d : DS} (hp : 1 ≤ p ∧ p ≤ 8) (hd : M x p = some (a, d)) (h6 : d.mk6 = (G.ow m).mk6) (hst : d.st = k) : G.Set1 M m x (k + 1) := by
 have hxm : x ≠ m := fun e => by rw [e, hD.zero m hm.1] at hx; omega
 have hltx : ltM (G.ow m) (G.ow x) = true := hm.2 x hxn (by omega) hxm
 rcases bstL_spec M x with ⟨_, e2⟩ | ⟨b, e1, e2, ⟨ab, e3⟩, e4⟩
 ·exact absurd hd (e2 p a d hp.1 hp.2)
 ·have hf := e4 p a d hp.1 hp.2 hd
  have hgb := hM _ _ _ _ e3
  generalize hB : dsAt (hrd M x) b = B at *
  have hB6 : B.mk6 = (G.ow m).mk6 ∧ B.st = k := by
   rcases good_master hG hD hm (by omega) hgb with h1 | ⟨h1, y, q, hpp, h2, h3⟩
   ·have : ltM d B = true := by unfold ltM at h1 ⊢; rw [h6]; exact h1
    rw [less_of_ltM this] at hf; cases hf
   ·obtain ⟨_, _, _, _, hq⟩ := hG.pe_ok _ _ _ _ hpp
    have hed := hD.edge m y q x (b + 1) hm.1 hq h2
    rcases less_cases hf with h4 | ⟨_, h5⟩
    ·unfold ltM at h4; rw [h1, h6, lexB_irr] at h4; cases h4
    ·exact ⟨h1, by omega⟩
  have hs : selfD (G.ow x) (hrd M x) = false := by
   unfold selfD
   rw [e1, Int.toNat_natCast, hB]
   have : ltM B (G.ow x) = true := by unfold ltM at hltx ⊢; rw [hB6.1]; exact hltx
   rw [less_false_of_ltM this, Bool.or_false]
   exact decide_eq_false (by omega)
  have hfol : G.fol M x = B := by
   unfold NetP.fol folD; rw [if_neg (by rw [hs]; simp), e1, Int.toNat_natCast, hB]
  exact .inr ⟨by omega, hs, by rw [hfol]; exact hB6.1, by rw [hfol, hB6.2]; rfl⟩
theorem ann_two {c : Int} (h : c = 2) : ann c = true := by subst h; rfl
theorem ann_three {c : Int} (h : c = 3) : ann c = true := by subst h; rfl
theorem set1_sends {G : NetP} (hG : G.OK) {D : Nat → Nat → Int} (hD : G.Dst D) {m : Nat} (hm : G.Best D m) {M : Mem} (hM : G.AllG D M) {x k y p q : Nat} (hk : k < 31) (hx : D m x = k + 1) (hy : D m y = k) (hpe : G.pe x p = some (y, q)) (hS : G.Set1 M m y k) :
  ∃ d : DS, G.rnd M x p = some (0, d) ∧ d.mk6 = (G.ow m).mk6 ∧ d.st = k := by
 obtain ⟨⟨hxn, hyn⟩, hpb, hqb, hne, hq⟩ := hG.pe_ok _ _ _ _ hpe
 have key : ∃ d : DS, G.snd M y q x p = some d ∧ d.mk6 = (G.ow m).mk6 ∧ d.st = k := by
  rcases hS with ⟨rfl, hs, hf⟩ | ⟨hk0, hs, hf6, hfs⟩
  ·have hc : ann (G.cod M y (q - 1)) = true := ann_two (by unfold NetP.cod codD; rw [if_pos hs])
   have hym : y = m := hD.zeq m y hm.1 hyn (by simpa using hy)
   refine ⟨{ G.ow y with se := G.id y, sp := (q : Int), re := G.id x, rp := (p : Int) }, by unfold NetP.snd; rw [if_pos hc, if_pos hf], ?_, ?_⟩
   ·rw [hym]; rfl
   ·show (G.ow y).st = ((0 : Nat) : Int)
    rw [hG.st]; rfl
  ·rcases fol_cases G M y with ⟨e, _⟩ | ⟨_, b, e1, e2, e3, ⟨ab, e4⟩, e5, e6⟩
   ·rw [hs] at e; cases e
   ·have hbq : b + 1 ≠ q := fun hbq => by
     rw [hbq] at e4
     rcases good_master hG hD hm (by omega) (hM _ _ _ _ e4) with h1 | ⟨h1, z, r, hz, h2, h3⟩
     ·unfold ltM at h1; rw [hf6, lexB_irr] at h1; cases h1
     ·rw [hq] at hz
      obtain ⟨rfl, rfl⟩ := Prod.mk.inj (Option.some.inj hz)
      omega
    have hc : ann (G.cod M y (q - 1)) = true := by
     refine ann_three ?_
     unfold NetP.cod codD
     rw [if_neg (by rw [hs]; simp), if_neg (by rw [e1]; omega), e1, Int.toNat_natCast, ← e3, if_pos]
     cases hh : hasAt (hrd M y) (q - 1) with
     | false => exact .inl rfl
     | true =>
      right
      obtain ⟨a', hm'⟩ := hrd_has (by omega) hh
      rw [show q - 1 + 1 = q by omega] at hm'
      generalize dsAt (hrd M y) (q - 1) = d' at *
      rcases good_master hG hD hm (by omega) (hM _ _ _ _ hm') with h1 | ⟨h1, z, r, hz, h2, h3⟩
      ·apply less_of_ltM
       have e : (furD (G.fol M y) (G.ow y) (q - 1) d').mk6 = (G.ow m).mk6 := hf6
       unfold ltM at h1 ⊢
       rw [e]; exact h1
      ·rw [hq] at hz
       obtain ⟨rfl, rfl⟩ := Prod.mk.inj (Option.some.inj hz)
       apply less_of_st (a := furD (G.fol M y) (G.ow y) (q - 1) d') (hf6.trans h1.symm)
       show (G.fol M y).st + 1 < d'.st
       omega
    have hno : G.fol M y ≠ G.ow y := fun e => by
     rw [e] at hf6
     have h1 := mk6_gm hf6
     rw [hG.gm, hG.gm] at h1
     have := hG.inj y m hyn hm.1 h1
     rw [this, hD.zero m hm.1] at hy
     omega
    refine ⟨{ G.fol M y with st := (G.fol M y).st + 1, se := G.id y, sp := (q : Int), re := G.id x, rp := (p : Int) }, by unfold NetP.snd; rw [if_pos hc, if_neg hno, if_pos (by omega)], hf6, hfs⟩
 obtain ⟨d, h1, h2, h3⟩ := key
 refine ⟨d, ?_, h2, h3⟩
 unfold NetP.rnd
 rw [hpe]
 dsimp only
 rw [h1]
theorem set1_run {G : NetP} (hG : G.OK) {D : Nat → Nat → Int} (hD : G.Dst D) {m : Nat} (hm : G.Best D m) {M : Mem} (hM : G.AllG D M) : ∀ (k t x : Nat), x < G.n → k < 32 → D m x = k → k ≤ t → G.Set1 (G.run M t) m x k
 | 0, t, x, hx, _, hd, _ => by
  have : x = m := hD.zeq m x hm.1 hx (by simpa using hd)
  subst this
  exact set1_zero hG hD hm (good_run hG hD hM t)
 | k + 1, t, x, hx, hk, hd, ht => by
  obtain ⟨s, rfl⟩ : ∃ s, t = s + 1 := ⟨t - 1, by omega⟩
  obtain ⟨p, y, q, hp, hy⟩ := hD.back m x hm.1 hx (by omega)
  obtain ⟨⟨_, hyn⟩, hpb, _⟩ := hG.pe_ok _ _ _ _ hp
  have ih := set1_run hG hD hm hM k s y hyn (by omega) (by omega) (by omega)
  have hGs := good_run hG hD hM s
  obtain ⟨d, h1, h2, h3⟩ := set1_sends hG hD hm hGs (by omega) (by omega) (by omega) hp ih
  exact set1_succ hG hD hm (good_run hG hD hM (s + 1)) hx (by omega) hpb h1 h2 h3
theorem starts {G : NetP} (hG : G.OK) {D : Nat → Nat → Int} (hD : G.Dst D) {m : Nat} (hm : G.Best D m) {k t x : Nat} (hx : x < G.n) (hk : k < 32) (hd : D m x = k) (ht : k ≤ t) : G.Set1 (G.run (fun _ _ => none) t) m x k :=
 set1_run hG hD hm (fun _ _ _ _ h => by cases h) k t x hx hk hd ht
end Go.Vx.L58

/- Lemmas of a small executor for the model, and contracts of functions, used for the law that this claim proves. No condition. -/
import Derived.Test.YtodbfpjjahpahaaDoorBE0
import Derived.Test.YtodbfpjjahpahaaDoorBX10
import Derived.Test.YtodbfpjjahpahaaDoorBX11
import Derived.Test.YtodbfpjjahpahaaDoorBEAC
set_option linter.unusedSimpArgs false
set_option linter.unusedVariables false
namespace Go.Vx.L42
structure NetP.Stp (G : NetP) (M M' : Mem) : Prop where
 src : ∀ x p a d, M' x p = some (a, d) -> (∃ a', M x p = some (a', d)) \/ ∃ y q, G.pe x p = some (y, q) /\ G.snd M y q x p = some d
 hear : ∀ x p y q d, G.pe x p = some (y, q) -> G.snd M y q x p = some d -> d.gm ≠ G.id x -> ∃ a, M' x p = some (a, d)
theorem c3c {G : NetP} (hG : G.OK) {D : Nat -> Nat -> Int} (hD : G.Dst D) {M M' : Mem} (hS : G.Stp M M') (hM : G.AllG D M) : G.AllG D M' := by
 intro x p a d h
 rcases hS.src x p a d h with ⟨a', hm⟩ | ⟨y, q, hp, hs⟩
 ·exact hM _ _ _ _ hm
 obtain ⟨⟨hx, hy⟩, _, _, _, hq⟩ := hG.pe_ok _ _ _ _ hp
 rcases c0w hs with ⟨_, rfl⟩ | ⟨hne, hst, rfl⟩
 ·refine ⟨y, y, q, hy, hp, rfl, ?_, ?_⟩
  ·rw [hD.zero y hy]; omega
  ·show D y y <= (G.ow y).st
   rw [hD.zero y hy, hG.st]; omega
 ·rcases a7m G M y with ⟨_, e⟩ | ⟨_, b, _, _, _, ⟨a', hm⟩, _⟩
  ·exact absurd e hne
  ·generalize G.fol M y = f at *
   obtain ⟨i, z, r, hi, hz, hm6, hd0, hd1⟩ := hM _ _ _ _ hm
   obtain ⟨_, _, _, _, hr⟩ := hG.pe_ok _ _ _ _ hz
   obtain ⟨g1, g2⟩ := hD.edge i z r y (b + 1) hi hr hd0
   refine ⟨i, y, q, hi, hp, hm6, g1, ?_⟩
   show D i y <= f.st + 1
   omega
theorem a9i {G : NetP} (hG : G.OK) {D : Nat -> Nat -> Int} (hD : G.Dst D) {M : Nat -> Mem} (h0 : ∀ x p, M 0 x p = none) {N : Nat} (hS : ∀ t, t < N -> G.Stp (M t) (M (t + 1))) : ∀ t, t <= N -> G.AllG D (M t)
 | 0, _ => fun x p a d h => by rw [h0] at h; cases h
 | t + 1, ht => c3c hG hD (hS t (by omega)) (a9i hG hD h0 hS t (by omega))
theorem c11 {G : NetP} (hG : G.OK) {D : Nat -> Nat -> Int} (hD : G.Dst D) {m : Nat} (hm : G.Best D m) {M : Mem} (hM : G.AllG D M) {x k y p q : Nat} (hk : k < 31) (hx : D m x = k + 1) (hy : D m y = k) (hpe : G.pe x p = some (y, q)) (hS : G.Set1 M m y k) :
  ∃ d : DS, G.snd M y q x p = some d /\ d.mk6 = (G.ow m).mk6 /\ d.st = k := by
 let M0 : Mem := fun x p => (M x p).map fun v => (0, v.2)
 have eh : ∀ x, hrd M0 x = hrd M x := fun x => by
  unfold hrd
  apply List.map_congr_left
  intro i _
  show ((M x (i + 1)).map fun v => ((0 : Int), v.2)).map (·.2) = (M x (i + 1)).map (·.2)
  cases M x (i + 1) <;> rfl
 have ef : ∀ x, G.fol M0 x = G.fol M x := fun x => by unfold NetP.fol; rw [eh]
 have ec : ∀ x i, G.cod M0 x i = G.cod M x i := fun x i => by unfold NetP.cod; rw [eh]
 have es : ∀ x p y q, G.snd M0 x p y q = G.snd M x p y q := fun x p y q => by unfold NetP.snd; rw [ec, ef]
 have hM0 : G.AllG D M0 := fun x p a d h => by
  have h : (M x p).map (fun v => ((0 : Int), v.2)) = some (a, d) := h
  cases hv : M x p with
  | none => rw [hv] at h; cases h
  | some v =>
   rw [hv] at h
   obtain ⟨_, rfl⟩ := Prod.mk.inj (Option.some.inj h)
   exact hM x p v.1 v.2 hv
 have hS0 : G.Set1 M0 m y k := by unfold NetP.Set1; rw [eh, ef]; exact hS
 obtain ⟨d, h1, h2, h3⟩ := b7a hG hD hm hM0 hk hx hy hpe hS0
 refine ⟨d, ?_, h2, h3⟩
 obtain ⟨y', q', hp', hc⟩ := b9c h1
 rw [hpe] at hp'
 obtain ⟨rfl, rfl⟩ := Prod.mk.inj (Option.some.inj hp')
 rcases hc with ⟨_, hs⟩ | ⟨a', hm', h5, _⟩
 ·rw [<- es]; exact hs
 ·have hm' : (M x p).map (fun v => ((0 : Int), v.2)) = some (a', d) := hm'
  cases hv : M x p with
  | none => rw [hv] at hm'; cases hm'
  | some v =>
   rw [hv] at hm'
   obtain ⟨rfl, _⟩ := Prod.mk.inj (Option.some.inj hm')
   omega
theorem b6p {G : NetP} (hG : G.OK) {D : Nat -> Nat -> Int} (hD : G.Dst D) {m : Nat} (hm : G.Best D m) {M : Nat -> Mem} (h0 : ∀ x p, M 0 x p = none) {N : Nat} (hS : ∀ t, t < N -> G.Stp (M t) (M (t + 1))) :
  ∀ (k t x : Nat), t <= N -> x < G.n -> k < 32 -> D m x = k -> k <= t -> G.Set1 (M t) m x k
 | 0, t, x, hN, hx, _, hd, _ => by
  have : x = m := hD.zeq m x hm.1 hx (by simpa using hd)
  subst this
  exact b9f hG hD hm (a9i hG hD h0 hS t hN)
 | k + 1, t, x, hN, hx, hk, hd, ht => by
  obtain ⟨s, rfl⟩ : ∃ s, t = s + 1 := ⟨t - 1, by omega⟩
  obtain ⟨p, y, q, hp, hy⟩ := hD.back m x hm.1 hx (by omega)
  obtain ⟨⟨_, hyn⟩, hpb, _⟩ := hG.pe_ok _ _ _ _ hp
  have ih := b6p hG hD hm h0 hS k s y (by omega) hyn (by omega) (by omega) (by omega)
  obtain ⟨d, h1, h2, h3⟩ := c11 hG hD hm (a9i hG hD h0 hS s (by omega)) (by omega) (by omega) (by omega) hp ih
  have hxm : x ≠ m := fun e => by rw [e, hD.zero m hm.1] at hd; omega
  have hgm : d.gm ≠ G.id x := fun e => by
   have := b30 h2
   rw [hG.gm, e] at this
   exact hxm (hG.inj x m hx hm.1 this)
  obtain ⟨a, h4⟩ := (hS s (by omega)).hear x p y q d hp h1 hgm
  exact c0q hG hD hm (a9i hG hD h0 hS (s + 1) hN) hx (by omega) hpb h4 h2 h3
theorem c4s {G : NetP} (hG : G.OK) {D : Nat -> Nat -> Int} (hD : G.Dst D) (hs : ∀ i j, i < G.n -> j < G.n -> D i j = D j i) (hn : G.n <= 32) {M : Nat -> Mem} (h0 : ∀ x p, M 0 x p = none) {N : Nat} (hS : ∀ t, t < N -> G.Stp (M t) (M (t + 1))) {t x : Nat} (hN : t <= N) (hx : x < G.n) (ht : G.n <= t + 1) :
  ∃ m k : Nat, m < G.n /\ b1e G.ow (D x) x G.n = (m, (k : Int)) /\ (G.fol (M t) x).gm = G.id m /\ (0 < k -> (G.fol (M t) x).st + 1 = k) := by
 obtain ⟨h1, h2, h3⟩ := b4n hG hD hs hx
 have h4 := c2u hG hD h1.1 hx
 generalize hc : b1e G.ow (D x) x G.n = c at *
 obtain ⟨k, hk⟩ := Int.eq_ofNat_of_zero_le h3
 have hT := b6p hG hD h1 h0 hS k t x hN hx (by omega) hk (by omega)
 refine ⟨c.1, k, h1.1, Prod.ext rfl (by rw [h2, hk]), ?_, ?_⟩
 ·rcases hT with ⟨e, _, hf⟩ | ⟨_, _, hf6, _⟩
  ·rw [hf, hG.gm]
   have : x = c.1 := hD.zeq c.1 x h1.1 hx (by rw [hk, e]; rfl)
   rw [<- this]
  ·rw [b30 hf6, hG.gm]
 ·intro hk0
  rcases hT with ⟨e, _⟩ | ⟨_, _, _, h⟩
  ·omega
  ·exact h
end Go.Vx.L42
set_option maxRecDepth 100000
namespace Go.Vx.L42.B
open Go Go.Proofs Go.Vx.L42
def dlM (G : NetP) (at' : Int) (T : Nat -> CS) (im : Nat × MG) : Nat -> CS := match G.pe im.1 im.2.port.toNat with
 | none => T
 | some (y, q) => b26 T y (a8z (T y) (q - 1) im.2 at')
def dlL (G : NetP) (at' : Int) (L : List (Nat × MG)) (T : Nat -> CS) : Nat -> CS := L.foldl (dlM G at') T
theorem a6l (G : NetP) (at' : Int) (L L' : List (Nat × MG)) (T : Nat -> CS) : dlL G at' (L ++ L') T = dlL G at' L' (dlL G at' L T) := List.foldl_append
theorem a74 {α : Type} (f : Nat -> α) (i : Nat) (v : α) : b26 f i v i = v := by simp [b26]
theorem b2d {α : Type} (f : Nat -> α) {i j : Nat} (v : α) (h : j ≠ i) : b26 f i v j = f j := by
 have : Nat.beq j i = false := by
  cases hb : Nat.beq j i
  ·rfl
  ·exact absurd (Nat.eq_of_beq_eq_true hb) h
 simp [b26, this]
theorem c1r (c : CS) (i : Nat) (m : MG) (at' : Int) : (a8z c i m at').nd = c.nd /\ (a8z c i m at').fol = c.fol /\ (a8z c i m at').st = c.st /\ (a8z c i m at').an = c.an /\ ((a8z c i m at').last = c.last \/ (a8z c i m at').last = at') := by
 unfold a8z
 split
 ·exact ⟨rfl, rfl, rfl, rfl, .inl rfl⟩
 ·exact ⟨rfl, rfl, rfl, rfl, .inr rfl⟩
structure SameP (c c' : CS) (j : Nat) : Prop where
 rc : c'.rc j = c.rc j
 rl : c'.rl j = c.rl j
 mrk : c'.mrk j = c.mrk j
theorem SameP.refl (c : CS) (j : Nat) : SameP c c j := ⟨rfl, rfl, rfl⟩
theorem c0l (c : CS) {i j : Nat} (m : MG) (at' : Int) (h : j ≠ i) : SameP c (a8z c i m at') j := by
 unfold a8z
 split
 ·exact SameP.refl c j
 ·exact ⟨b2d _ _ h, b2d _ _ h, b2d _ _ h⟩
theorem c2g (c : CS) (i : Nat) (m : MG) (at' : Int) (h : m.d.gm ≠ c.nd.id) : (a8z c i m at').rc i = hrF (c.rc i) (mgD m c.nd.id (i + 1)) at' /\ (a8z c i m at').rl i = at' /\ (a8z c i m at').mrk i = at' := by
 unfold a8z
 rw [if_neg h]
 exact ⟨a74 .., a74 .., a74 ..⟩
abbrev c1y (im : Nat × MG) : Nat × Nat := (im.1, im.2.port.toNat)
structure Deliv (G : NetP) (at' : Int) (L : List (Nat × MG)) (c c' : CS) (x j : Nat) : Prop where
 nd : c'.nd = c.nd
 fol : c'.fol = c.fol
 st : c'.st = c.st
 an : c'.an = c.an
 last : c'.last = c.last \/ c'.last = at'
 port : (SameP c c' j /\ ∀ im ∈ L, G.pe im.1 im.2.port.toNat = some (x, j + 1) -> im.2.d.gm = c.nd.id) \/
  ∃ im ∈ L, G.pe im.1 im.2.port.toNat = some (x, j + 1) /\ im.2.d.gm ≠ c.nd.id /\ c'.rc j = hrF (c.rc j) (mgD im.2 c.nd.id (j + 1)) at' /\ c'.rl j = at' /\ c'.mrk j = at'
theorem c60 {G : NetP} (hG : G.OK) (at' : Int) : ∀ (L : List (Nat × MG)) (T : Nat -> CS), L.Pairwise (fun a b => c1y a ≠ c1y b) -> ∀ x j, Deliv G at' L (T x) (dlL G at' L T x) x j
 | [], T, _, x, j => ⟨rfl, rfl, rfl, rfl, .inl rfl, .inl ⟨SameP.refl _ _, fun im h => by cases h⟩⟩
 | a :: L, T, hL, x, j => by
  obtain ⟨h1, h2⟩ := List.pairwise_cons.1 hL
  have ih := c60 hG at' L (dlM G at' T a) h2 x j
  have e : dlL G at' (a :: L) T = dlL G at' L (dlM G at' T a) := rfl
  rw [e]
  cases hp : G.pe a.1 a.2.port.toNat with
  | none =>
   have e1 : dlM G at' T a = T := by unfold dlM; rw [hp]
   rw [e1] at ih ⊢
   obtain ⟨i1, i2, i3, i4, i5, i6⟩ := ih
   refine ⟨i1, i2, i3, i4, i5, ?_⟩
   rcases i6 with ⟨q1, q2⟩ | ⟨im, q1, q2⟩
   ·refine .inl ⟨q1, fun im him hpe => ?_⟩
    rcases List.mem_cons.1 him with rfl | him
    ·rw [hp] at hpe; cases hpe
    ·exact q2 im him hpe
   ·exact .inr ⟨im, List.mem_cons_of_mem _ q1, q2⟩
  | some yq =>
   obtain ⟨y, q⟩ := yq
   obtain ⟨_, _, hq, _, hback⟩ := hG.pe_ok _ _ _ _ hp
   have e1 : dlM G at' T a = b26 T y (a8z (T y) (q - 1) a.2 at') := by unfold dlM; rw [hp]
   by_cases hxy : x = y
   ·subst hxy
    have e2 : dlM G at' T a x = a8z (T x) (q - 1) a.2 at' := by rw [e1, a74]
    obtain ⟨k1, k2, k3, k4, k5⟩ := c1r (T x) (q - 1) a.2 at'
    obtain ⟨i1, i2, i3, i4, i5, i6⟩ := ih
    rw [e2] at i1 i2 i3 i4 i5 i6
    refine ⟨i1.trans k1, i2.trans k2, i3.trans k3, i4.trans k4, ?_, ?_⟩
    ·rcases i5 with h | h
     ·rcases k5 with h' | h'
      ·exact .inl (h.trans h')
      ·exact .inr (h.trans h')
     ·exact .inr h
    ·by_cases hj : j = q - 1
     ·-- this message is for this port
      have hno : ∀ im ∈ L, G.pe im.1 im.2.port.toNat ≠ some (x, j + 1) := fun im him hpe => by
       obtain ⟨_, _, _, _, hb⟩ := hG.pe_ok _ _ _ _ hpe
       rw [show j + 1 = q by omega, hback] at hb
       exact h1 im him (Option.some.inj hb)
      rcases i6 with ⟨q1, _⟩ | ⟨im, q1, q2, _⟩
      ·by_cases hgm : a.2.d.gm = (T x).nd.id
       ·have e3 : a8z (T x) (q - 1) a.2 at' = T x := if_pos hgm
        rw [e3] at q1
        refine .inl ⟨q1, fun im him hpe => ?_⟩
        rcases List.mem_cons.1 him with rfl | him
        ·exact hgm
        ·exact absurd hpe (hno im him)
       ·obtain ⟨a1, a2, a3⟩ := c2g (T x) (q - 1) a.2 at' hgm
        rw [<- hj] at a1 a2 a3 q1
        refine .inr ⟨a, List.mem_cons_self .., by rw [hp, show j + 1 = q by omega], hgm, q1.rc.trans a1, q1.rl.trans a2, q1.mrk.trans a3⟩
      ·exact absurd q2 (hno im q1)
     ·have hs := c0l (T x) a.2 at' hj
      rcases i6 with ⟨q1, q2⟩ | ⟨im, q1, q2, q3, q4, q5, q6⟩
      ·refine .inl ⟨⟨q1.rc.trans hs.rc, q1.rl.trans hs.rl, q1.mrk.trans hs.mrk⟩, fun im him hpe => ?_⟩
       rcases List.mem_cons.1 him with rfl | him
       ·rw [hp] at hpe
        obtain ⟨_, e5⟩ := Prod.mk.inj (Option.some.inj hpe)
        omega
       ·rw [q2 im him hpe, k1]
      ·refine .inr ⟨im, List.mem_cons_of_mem _ q1, q2, by rw [k1] at q3; exact q3, ?_, q5, q6⟩
       rw [hs.rc, k1] at q4
       exact q4
   ·have e2 : dlM G at' T a x = T x := by rw [e1, b2d _ _ hxy]
    obtain ⟨i1, i2, i3, i4, i5, i6⟩ := ih
    rw [e2] at i1 i2 i3 i4 i5 i6
    refine ⟨i1, i2, i3, i4, i5, ?_⟩
    rcases i6 with ⟨q1, q2⟩ | ⟨im, q1, q2⟩
    ·refine .inl ⟨q1, fun im him hpe => ?_⟩
     rcases List.mem_cons.1 him with rfl | him
     ·rw [hp] at hpe
      exact absurd (Prod.mk.inj (Option.some.inj hpe)).1.symm hxy
     ·exact q2 im him hpe
    ·exact .inr ⟨im, List.mem_cons_of_mem _ q1, q2⟩
theorem b0w {c : CS} {m : MG} : ∀ {x : Nat}, m ∈ a16 c x ↔ ∃ k, k < x /\ c.st k = 6 /\ m = ⟨c.nd.id, (k : Int) + 1, c.an k, sdD c⟩
 | 0 => by simp [a16]
 | x + 1 => by
  simp only [a16, List.mem_append, b0w (x := x)]
  constructor
  ·rintro (⟨k, h1, h2, h3⟩ | h)
   ·exact ⟨k, by omega, h2, h3⟩
   ·by_cases h6 : c.st x = 6
    ·rw [if_pos h6, List.mem_singleton] at h
     exact ⟨x, by omega, h6, h⟩
    ·rw [if_neg h6] at h; cases h
  ·rintro ⟨k, h1, h2, h3⟩
   by_cases hk : k = x
   ·subst hk
    right; rw [if_pos h2, List.mem_singleton]; exact h3
   ·exact .inl ⟨k, by omega, h2, h3⟩
theorem b5z (c : CS) (i : Nat) : ∀ x, ((a16 c x).map fun m => (i, m)).Pairwise fun a b => c1y a ≠ c1y b
 | 0 => List.Pairwise.nil
 | x + 1 => by
  simp only [a16, List.map_append]
  refine List.pairwise_append.2 ⟨b5z c i x, ?_, ?_⟩
  ·split
   ·exact List.pairwise_singleton _ _
   ·exact List.Pairwise.nil
  ·intro a ha b hb e
   obtain ⟨m, hm, rfl⟩ := List.mem_map.1 ha
   obtain ⟨m', hm', rfl⟩ := List.mem_map.1 hb
   obtain ⟨k, h1, _, rfl⟩ := b0w.1 hm
   split at hm'
   ·rw [List.mem_singleton] at hm'
    subst hm'
    have := (Prod.mk.inj e).2
    simp only at this
    omega
   ·cases hm'
def flP (S : Nat -> CS) (at' : Int) : Nat -> List (Nat × MG)
 | 0 => []
 | i + 1 => flP S at' i ++ (a16 (a07 (S i) at') 8).map fun m => (i, m)
theorem a9t {S : Nat -> CS} {at' : Int} {im : Nat × MG} : ∀ {n : Nat}, im ∈ flP S at' n ↔ im.1 < n /\ im.2 ∈ a16 (a07 (S im.1) at') 8
 | 0 => by simp [flP]
 | n + 1 => by
  simp only [flP, List.mem_append, a9t (n := n), List.mem_map]
  constructor
  ·rintro (⟨h1, h2⟩ | ⟨m, h1, rfl⟩)
   ·exact ⟨by omega, h2⟩
   ·exact ⟨by simp, h1⟩
  ·rintro ⟨h1, h2⟩
   by_cases h : im.1 = n
   ·exact .inr ⟨im.2, by rw [<- h]; exact h2, by rw [<- h]⟩
   ·exact .inl ⟨by omega, h2⟩
theorem b5h (S : Nat -> CS) (at' : Int) : ∀ n, (flP S at' n).Pairwise fun a b => c1y a ≠ c1y b
 | 0 => List.Pairwise.nil
 | n + 1 => by
  refine List.pairwise_append.2 ⟨b5h S at' n, b5z _ _ _, fun a ha b hb e => ?_⟩
  have h1 := (a9t.1 ha).1
  obtain ⟨m, _, rfl⟩ := List.mem_map.1 hb
  have := (Prod.mk.inj e).1
  simp only at this
  omega
def a4y (G : NetP) (S : Nat -> CS) (at' : Int) : Nat -> CS := dlL G at' (flP S at' G.n) fun j => a1v (a07 (S j) at')
end Go.Vx.L42.B
set_option maxRecDepth 100000
namespace Go.Vx.L42.B
open Go Go.Proofs Go.Vx.L42
structure AnnOK (c : CS) (i : Nat) (m : MG) (at' : Int) : Prop where
 hi : i < 8
 wf : wfMG m
 t : 0 <= at' /\ at' <= 1000000000 /\ c.last <= at'
 rl : 0 <= c.rl i /\ c.rl i <= at'
 ne : m.id ≠ c.nd.id
 ok : b49 (c.rc i)
 og : ∀ d0 ts, c.rc i = some (d0, ts) -> d0.se = m.id /\ d0.sp = m.port
 st : 4 <= c.st i
def rwP (S : Nat -> CS) (at' : Int) : Nat -> List (List MG)
 | 0 => []
 | x + 1 => rwP S at' x ++ [a16 (a07 (S x) at') 8]
theorem a6f (S : Nat -> CS) (at' : Int) : ∀ x, (rwP S at' x).length = x
 | 0 => rfl
 | x + 1 => by rw [rwP, List.length_append, a6f S at' x]; rfl
theorem a7a (S : Nat -> CS) (at' : Int) : ∀ x i, i < x -> (rwP S at' x).getD i [] = a16 (a07 (S i) at') 8
 | 0, i, h => by omega
 | x + 1, i, h => by
  have hl := a6f S at' x
  rw [rwP, List.getD_eq_getElem?_getD]
  by_cases hi : i < x
  ·rw [List.getElem?_append_left (by omega), <- List.getD_eq_getElem?_getD, a7a S at' x i hi]
  ·obtain rfl : i = x := by omega
   rw [List.getElem?_append_right (by omega), hl, Nat.sub_self]; rfl
theorem a62 {c : CS} {x : Nat} {m : MG} (h : m ∈ a16 c x) : ((m.port.toNat : Nat) : Int) = m.port := by
 obtain ⟨k, _, _, rfl⟩ := b0w.1 h
 show (((k : Int) + 1).toNat : Int) = (k : Int) + 1
 omega
theorem a4v (W : List MG) (j : Nat) (h : j < W.length) : W.getD j mg0 ∈ W := by
 rw [List.getD_eq_getElem?_getD, List.getElem?_eq_getElem h]
 exact List.getElem_mem h
theorem a8u (G : NetP) (at' : Int) (W : List MG) (z : Nat) (T : Nat -> CS) (j : Nat) (h : j < W.length) :
  dlL G at' ((W.take (j + 1)).map (Prod.mk z)) T = dlM G at' (dlL G at' ((W.take j).map (Prod.mk z)) T) (z, W.getD j mg0) := by
 rw [List.take_succ_eq_append_getElem h, List.map_append, a6l, List.getD_eq_getElem?_getD, List.getElem?_eq_getElem h]
 rfl
abbrev clB (n : Nat) : Blk := .arr true 40 1 n fun i _ => .ptr (3 + i) 24 0 0
end Go.Vx.L42.B
set_option maxRecDepth 100000
namespace Go.Vx.L42.B
open Go Go.Proofs Go.Vx.L42
variable {ns : List Nd} {l : List Ed}
structure bdD (d : DS) : Prop where
 p1 : 0 <= d.p1 /\ d.p1 <= 255
 cl : 0 <= d.cl /\ d.cl <= 255
 ac : 0 <= d.ac /\ d.ac <= 255
 va : 0 <= d.va /\ d.va <= 65535
 p2 : 0 <= d.p2 /\ d.p2 <= 255
 gm : inU d.gm
structure NQ (ns : List Nd) (l : List Ed) : Prop where
 ok : NOK ns l
 q : ∀ x, x < ns.length -> bdD (owD (ns.getD x nd0))
def atK (k : Nat) : Int := 1000 * (k + 1)
theorem a2w (k : Nat) : atK k = 1000 * ((k : Int) + 1) := rfl
def stS (ns : List Nd) (l : List Ed) : Nat -> Nat -> CS
 | 0 => fun j => c90 (ns.getD j nd0)
 | k + 1 => a4y (a08 ns l) (stS ns l k) (atK k)
structure WR1 (ns : List Nd) (l : List Ed) (k j i : Nat) (r : RS) : Prop where
 ok : b49 r
 d : ∀ d ts, r = some (d, ts) -> bdD d /\ (0 <= d.st /\ d.st + 1 <= k) /\ ∃ y p, (a08 ns l).pe j (i + 1) = some (y, p) /\ d.se = (a08 ns l).id y /\ d.sp = p /\ d.re = (a08 ns l).id j /\ d.rp = (i : Int) + 1
structure WN1 (ns : List Nd) (l : List Ed) (k j : Nat) (c : CS) : Prop where
 nd : c.nd = ns.getD j nd0
 fol : bdD c.fol /\ 0 <= c.fol.st /\ c.fol.st <= k
 last : 0 <= c.last /\ c.last <= 1000 * (k : Int)
 rl : ∀ i, i < 8 -> 0 <= c.rl i /\ c.rl i <= 1000 * (k : Int)
 mrk : ∀ i, i < 8 -> 0 <= c.mrk i /\ c.mrk i <= 1000 * (k : Int)
 st : ∀ i, i < 8 -> c.st i = 6 \/ c.st i = 7 \/ c.st i = 8 \/ c.st i = 4
 an : ∀ i, i < 8 -> 0 <= c.an i /\ c.an i <= 65535
 rc : ∀ i, i < 8 -> WR1 ns l k j i (c.rc i)
def WN (ns : List Nd) (l : List Ed) (k : Nat) (S : Nat -> CS) : Prop := ∀ j, j < ns.length -> WN1 ns l k j (S j)
theorem c0s : b49 none := fun d ts e => by cases e
theorem c4p (h : NQ ns l) : WN ns l 0 (stS ns l 0) := fun j hj => by
 have hq := h.q j hj
 exact {
  nd := rfl
  fol := ⟨hq, Int.le_refl _, Int.le_refl _⟩
  last := ⟨Int.le_refl _, Int.le_refl _⟩
  rl := fun i _ => ⟨Int.le_refl _, Int.le_refl _⟩
  mrk := fun i _ => ⟨Int.le_refl _, Int.le_refl _⟩
  st := fun i _ => .inr (.inr (.inr rfl))
  an := fun i _ => ⟨Int.le_refl _, by show (0 : Int) <= 65535; omega⟩
  rc := fun i _ => ⟨c0s, fun d ts e => by cases e⟩ }
theorem a8y {n : Int} (h : 0 <= n /\ n <= 1000000) : inI n := by unfold inI; omega
theorem c7l (h : NQ ns l) {k j i : Nat} (hk : k <= 30) (hj : j < ns.length) (hi : i < 8) {r : RS} (hr : WR1 ns l k j i r) {d : DS} {ts : List Int} (e : r = some (d, ts)) : wfD d /\ 0 <= d.st /\ d.st <= 1000000 := by
 obtain ⟨⟨h1, h2, h3, h4, h5, h6⟩, h7, y, p, h8, h9, h10, h11, h12⟩ := hr.d d ts e
 obtain ⟨⟨_, hy⟩, _, hp, _⟩ := (a79 h.ok).pe_ok _ _ _ _ h8
 have hu : ∀ x, inU ((a08 ns l).id x) := fun x => (h.ok.wf x).gm
 refine ⟨⟨a8y (by omega), a8y (by omega), a8y (by omega), a8y (by omega), a8y (by omega), h6, a8y (by omega), by rw [h9]; exact hu y, a8y (by omega), by rw [h11]; exact hu j, a8y (by omega)⟩, by omega, by omega⟩
theorem b1i (h : NQ ns l) {k : Nat} (hk : k <= 29) {S : Nat -> CS} (hS : WN ns l k S) {j : Nat} (hj : j < ns.length) : wfC (S j) (atK k) := by
 have hw := hS j hj
 have hq := h.q j hj
 have e := a2w k
 exact {
  q := by rw [hw.nd]; exact ⟨hq.p1, hq.cl, hq.ac, hq.va, hq.p2⟩
  own := by rw [hw.nd]; exact h.ok.wf j
  cl := by rw [hw.nd]; exact (h.ok.parts.2.2 j hj).2.2
  at0 := by omega
  last := by have := hw.last; omega
  rl := fun i hi => by have := hw.rl i hi; omega
  ok := fun i hi => (hw.rc i hi).ok
  ds := fun i d ts hi he => c7l h (by omega) hj hi (hw.rc i hi) he
  st := fun i hi => by
   rcases hw.st i hi with a | a | a | a
   ·exact .inl a
   ·exact .inr (.inl a)
   ·exact .inr (.inr (.inl a))
   ·exact .inr (.inr (.inr ⟨a, by have := hw.mrk i hi; omega⟩))
  mrk := fun i hi => by have := hw.mrk i hi; omega
  an := hw.an }
def b04 (n : Nat) (S : Nat -> CS) (at' : Int) : Mem := fun x p => if x < n /\ 1 <= p /\ p <= 8 then (bsF ((S x).rl (p - 1)) at' ((S x).rc (p - 1))).map fun d => (0, d) else none
theorem c09 {n : Nat} {S : Nat -> CS} {at' : Int} {x : Nat} (hx : x < n) : hrd (b04 n S at') x = bsP (S x) at' 8 := by
 apply List.ext_getElem (by rw [b5m, a7f])
 intro i h1 h2
 have hi : i < 8 := by rw [b5m] at h1; exact h1
 have e1 := b4l (b04 n S at') x i hi
 have e2 := b5f (S x) at' 8 i hi
 rw [List.getD_eq_getElem?_getD, List.getElem?_eq_getElem h1] at e1
 rw [List.getD_eq_getElem?_getD, List.getElem?_eq_getElem h2] at e2
 simp only [Option.getD_some] at e1 e2
 rw [e1, e2]
 unfold b04
 rw [if_pos ⟨hx, by omega, by omega⟩, Nat.add_sub_cancel]
 cases bsF ((S x).rl i) at' ((S x).rc i) <;> rfl
theorem c7n (c : CS) (at' : Int) (i : Nat) : (a07 c at').st i = stC ((b5y (owD c.nd) (bsP c at' 8)).getD i 0) := by simp only [a07]
theorem c64 (c : CS) (at' : Int) : (a07 c at').fol = b75 (owD c.nd) (bsP c at' 8) := by simp only [a07]
theorem c84 (c : CS) : (sdD c).st = if c.fol = owD c.nd then 0 else c.fol.st + 1 := rfl
theorem c9c {c : CS} (h : bdD c.fol) : bdD (sdD c) := ⟨h.p1, h.cl, h.ac, h.va, h.p2, h.gm⟩
theorem b42 {k : Nat} {S : Nat -> CS} (hS : WN ns l k S) {x : Nat} (hx : x < ns.length) (at' : Int) : (a07 (S x) at').fol = (a08 ns l).fol (b04 ns.length S at') x := by
 unfold NetP.fol
 rw [c09 hx, c64, (hS x hx).nd]; rfl
theorem c4a {k : Nat} {S : Nat -> CS} (hS : WN ns l k S) {x : Nat} (hx : x < ns.length) (at' : Int) {i : Nat} (hi : i < 8) : (a07 (S x) at').st i = stC ((a08 ns l).cod (b04 ns.length S at') x i) := by
 unfold NetP.cod
 rw [c09 hx, c7n, a9j _ _ _ _ (by rw [a7f]; exact hi), (hS x hx).nd]; rfl
theorem c4b {own : DS} {ps : List (Option DS)} {i : Nat} : stC (a7t own ps i) = 6 ↔ ann (a7t own ps i) = true := by
 unfold stC ann
 rcases c1o own ps i with e | e | e | e <;> rw [e] <;> decide
theorem b4q {n : Nat} {S : Nat -> CS} {at' : Int} {x p : Nat} {a : Int} {d : DS} (h : b04 n S at' x p = some (a, d)) : (x < n /\ 1 <= p /\ p <= 8) /\ bsF ((S x).rl (p - 1)) at' ((S x).rc (p - 1)) = some d := by
 unfold b04 at h
 split at h
 ·rename_i hc
  refine ⟨hc, ?_⟩
  cases hb : bsF ((S x).rl (p - 1)) at' ((S x).rc (p - 1)) with
  | none => rw [hb] at h; cases h
  | some d' =>
   rw [hb] at h
   obtain ⟨_, rfl⟩ := Prod.mk.inj (Option.some.inj h)
   rfl
 ·cases h
theorem c0u {n : Nat} {S : Nat -> CS} {at' : Int} {x p : Nat} {d : DS} (hc : x < n /\ 1 <= p /\ p <= 8) (h : bsF ((S x).rl (p - 1)) at' ((S x).rc (p - 1)) = some d) : b04 n S at' x p = some (0, d) := by
 unfold b04
 rw [if_pos hc, h]; rfl
theorem b0y {last at' : Int} {r : RS} {d : DS} {ts : List Int} (h : fgF last at' r = some (d, ts)) : r = some (d, ts) := by
 cases r with
 | none => cases h
 | some v =>
  obtain ⟨d', ts'⟩ := v
  simp only [fgF] at h
  split at h
  ·exact h
  ·cases h
theorem b4s {last at' : Int} {r : RS} {d : DS} (h : bsF last at' r = some d) : ∃ ts, fgF last at' r = some (d, ts) := by
 unfold bsF at h
 cases hf : fgF last at' r with
 | none => rw [hf] at h; cases h
 | some v =>
  obtain ⟨d', ts⟩ := v
  rw [hf] at h
  obtain rfl : d' = d := Option.some.inj h
  exact ⟨ts, rfl⟩
theorem b22 (h : NQ ns l) {k : Nat} {S : Nat -> CS} (hS : WN ns l k S) {x : Nat} (hx : x < ns.length) (at' : Int) :
  bdD (a07 (S x) at').fol /\ 0 <= (a07 (S x) at').fol.st /\ (a07 (S x) at').fol.st <= k /\ ((a07 (S x) at').fol ≠ owD (ns.getD x nd0) -> (a07 (S x) at').fol.st + 1 <= k) := by
 rw [b42 hS hx]
 rcases a7m (a08 ns l) (b04 ns.length S at') x with ⟨_, e⟩ | ⟨_, b, _, hb, _, ⟨a, hm⟩, _⟩
 ·rw [e]
  exact ⟨h.q x hx, Int.le_refl _, by show (0 : Int) <= k; omega, fun hn => absurd rfl hn⟩
 ·obtain ⟨_, h2⟩ := b4q hm
  obtain ⟨ts, h3⟩ := b4s h2
  have h4 := b0y h3
  rw [Nat.add_sub_cancel] at h4
  obtain ⟨g1, g2, _⟩ := ((hS x hx).rc b hb).d _ ts h4
  exact ⟨g1, by omega, by omega, fun _ => by omega⟩
theorem c7e (h : NQ ns l) {k : Nat} {S : Nat -> CS} (hS : WN ns l k S) {x : Nat} (hx : x < ns.length) (at' : Int) : bdD (sdD (a07 (S x) at')) /\ 0 <= (sdD (a07 (S x) at')).st /\ (sdD (a07 (S x) at')).st <= k := by
 obtain ⟨h1, h2, h3, h4⟩ := b22 h hS hx at'
 have e : (a07 (S x) at').nd = ns.getD x nd0 := (hS x hx).nd
 refine ⟨c9c h1, ?_⟩
 rw [c84, e]
 by_cases hf : (a07 (S x) at').fol = owD (ns.getD x nd0)
 ·rw [if_pos hf]; omega
 ·rw [if_neg hf]
  have := h4 hf
  omega
end Go.Vx.L42.B
set_option maxRecDepth 100000
namespace Go.Vx.L42.B
open Go Go.Proofs Go.Vx.L42
variable {ns : List Nd} {l : List Ed}
theorem b3i {S : Nat -> CS} {at' : Int} {n : Nat} {im : Nat × MG} (him : im ∈ flP S at' n) :
  im.1 < n /\ ∃ i, i < 8 /\ (a07 (S im.1) at').st i = 6 /\ im.2 = ⟨(S im.1).nd.id, (i : Int) + 1, (S im.1).an i, sdD (a07 (S im.1) at')⟩ := by
 obtain ⟨h1, h2⟩ := a9t.1 him
 obtain ⟨i, h3, h4, h5⟩ := b0w.1 h2
 exact ⟨h1, i, h3, h4, h5⟩
theorem c7z (h : NQ ns l) {k : Nat} (hk : k <= 29) {S : Nat -> CS} (hS : WN ns l k S) {at' : Int} {im : Nat × MG} (him : im ∈ flP S at' ns.length) : wfMG im.2 := by
 obtain ⟨hi, i, h3, _, h5⟩ := b3i him
 obtain ⟨hb, hs⟩ := c7e h hS hi at'
 rw [h5]
 exact ⟨by show 1 <= (i : Int) + 1 /\ (i : Int) + 1 <= 8; omega, (hS _ hi).an i h3, hb.p1, hb.cl, hb.ac, hb.va, hb.p2, by show 0 <= (sdD (a07 (S im.1) at')).st /\ (sdD (a07 (S im.1) at')).st < 32; omega⟩
theorem b5d (h : NQ ns l) {k : Nat} (hk : k <= 29) {S : Nat -> CS} (hS : WN ns l k S) {at' : Int} {im : Nat × MG} (him : im ∈ flP S at' ns.length) {x p : Nat} :
  (a08 ns l).snd (b04 ns.length S at') im.1 im.2.port.toNat x p = some (mgD im.2 ((a08 ns l).id x) p) := by
 obtain ⟨hi, i, h3, h4, h5⟩ := b3i him
 have hp : im.2.port.toNat = i + 1 := by
  rw [h5]
  show ((i : Int) + 1).toNat = i + 1
  omega
 have hnd := (hS _ hi).nd
 rw [c4a hS hi at' h3] at h4
 have ha : ann ((a08 ns l).cod (b04 ns.length S at') im.1 i) = true := c4b.1 h4
 have hf := b42 hS hi at'
 obtain ⟨_, _, h7, h8⟩ := b22 h hS hi at'
 unfold NetP.snd
 rw [hp, Nat.add_sub_cancel, if_pos ha, <- hf, h5]
 have how : (a08 ns l).ow im.1 = owD (ns.getD im.1 nd0) := rfl
 have hsd : sdD (a07 (S im.1) at') = { (a07 (S im.1) at').fol with st := if (a07 (S im.1) at').fol = owD (ns.getD im.1 nd0) then 0 else (a07 (S im.1) at').fol.st + 1 } := by
  rw [<- hnd]; rfl
 rw [hsd, how, hnd]
 generalize (a07 (S im.1) at').fol = f at *
 by_cases he : f = owD (ns.getD im.1 nd0)
 ·rw [if_pos he, if_pos he, he]; rfl
 ·rw [if_neg he, if_neg he, if_pos (by have := h8 he; omega)]; rfl
theorem c5g (h : NQ ns l) {k : Nat} (hk : k <= 29) {S : Nat -> CS} (hS : WN ns l k S) {at' : Int} {y q x p : Nat} {d : DS} (hpe : (a08 ns l).pe y q = some (x, p)) (hs : (a08 ns l).snd (b04 ns.length S at') y q x p = some d) :
  ∃ im, im ∈ flP S at' ns.length /\ im.1 = y /\ im.2.port.toNat = q /\ d = mgD im.2 ((a08 ns l).id x) p := by
 obtain ⟨⟨hy, _⟩, hq, _⟩ := (a79 h.ok).pe_ok _ _ _ _ hpe
 have hy : y < ns.length := hy
 have ha : ann ((a08 ns l).cod (b04 ns.length S at') y (q - 1)) = true := by
  unfold NetP.snd at hs
  split at hs
  ·assumption
  ·cases hs
 have h6 : (a07 (S y) at').st (q - 1) = 6 := by
  rw [c4a hS hy at' (by omega)]
  exact c4b.2 ha
 let im : Nat × MG := (y, ⟨(S y).nd.id, ((q - 1 : Nat) : Int) + 1, (S y).an (q - 1), sdD (a07 (S y) at')⟩)
 have him : im ∈ flP S at' ns.length := a9t.2 ⟨hy, b0w.2 ⟨q - 1, by omega, h6, rfl⟩⟩
 have hp : im.2.port.toNat = q := by
  show (((q - 1 : Nat) : Int) + 1).toNat = q
  omega
 refine ⟨im, him, rfl, hp, ?_⟩
 have := b5d h hk hS him (x := x) (p := p)
 rw [hp] at this
 rw [show im.1 = y from rfl, hs] at this
 exact Option.some.inj this
theorem c1f (h : NQ ns l) {S : Nat -> CS} {at' : Int} {L : List (Nat × MG)} (hp : L.Pairwise fun a b => c1y a ≠ c1y b) (x j : Nat) :
  Deliv (a08 ns l) at' L (a1v (a07 (S x) at')) (dlL (a08 ns l) at' L (fun j => a1v (a07 (S j) at')) x) x j := c60 (a79 h.ok) at' L (fun j => a1v (a07 (S j) at')) hp x j
theorem c3x (c : Int) : stC c = 6 \/ stC c = 7 \/ stC c = 8 := by
 unfold stC
 split
 ·exact .inl rfl
 ·split
  ·exact .inr (.inl rfl)
  ·exact .inr (.inr rfl)
theorem c73 (h : NQ ns l) {k : Nat} (hk : k <= 29) {S : Nat -> CS} (hS : WN ns l k S) {L : List (Nat × MG)} (hp : L.Pairwise fun a b => c1y a ≠ c1y b) (hL : ∀ im, im ∈ L -> im ∈ flP S (atK k) ns.length) {im : Nat × MG} (him : im ∈ flP S (atK k) ns.length) {y q : Nat} (hpe : (a08 ns l).pe im.1 im.2.port.toNat = some (y, q)) :
  AnnOK (dlL (a08 ns l) (atK k) L (fun j => a1v (a07 (S j) (atK k))) y) (q - 1) im.2 (atK k) := by
 obtain ⟨⟨hi, hy⟩, _, hq, hne, hback⟩ := (a79 h.ok).pe_ok _ _ _ _ hpe
 have hi : im.1 < ns.length := hi
 have hy : y < ns.length := hy
 have hw := hS y hy
 have hD := c1f h (S := S) (at' := atK k) hp y (q - 1)
 have e := a2w k
 have hq8 : q - 1 < 8 := by omega
 have hr := hw.rc (q - 1) hq8
 obtain ⟨_, i0, _, _, h5⟩ := b3i him
 have hid : im.2.id = (a08 ns l).id im.1 := by rw [h5, (hS _ hi).nd]; rfl
 have hport : ((im.2.port.toNat : Nat) : Int) = im.2.port := by
  rw [h5]; show (((i0 : Int) + 1).toNat : Int) = (i0 : Int) + 1; omega
 have hnd : (dlL (a08 ns l) (atK k) L (fun j => a1v (a07 (S j) (atK k))) y).nd = ns.getD y nd0 := hD.nd.trans hw.nd
 refine { hi := hq8, wf := c7z h hk hS him, t := ?_, rl := ?_, ne := ?_, ok := ?_, og := ?_, st := ?_ }
 ·refine ⟨by omega, by omega, ?_⟩
  rcases hD.last with h1 | h1
  ·rw [h1]; exact Int.le_refl _
  ·rw [h1]; exact Int.le_refl _
 ·rcases hD.port with ⟨h1, _⟩ | ⟨_, _, _, _, _, h1, _⟩
  ·rw [h1.rl]
   have := hw.rl (q - 1) hq8
   show 0 <= (S y).rl (q - 1) /\ (S y).rl (q - 1) <= atK k
   omega
  ·rw [h1]; omega
 ·rw [hnd, hid]
  exact fun e' => hne ((a79 h.ok).inj im.1 y hi hy e')
 ·rcases hD.port with ⟨h1, _⟩ | ⟨im', _, _, _, h1, _⟩
  ·rw [h1.rc]; exact b1r hr.ok
  ·rw [h1]; exact c4c _ _ (b1r hr.ok)
 ·intro d0 ts he
  rcases hD.port with ⟨h1, _⟩ | ⟨im', q1, q2, _, h1, _⟩
  ·rw [h1.rc] at he
   obtain ⟨_, _, y', p', g1, g2, g3, _⟩ := hr.d d0 ts (b0y he)
   rw [show q - 1 + 1 = q by omega, hback] at g1
   obtain ⟨rfl, rfl⟩ := Prod.mk.inj (Option.some.inj g1)
   exact ⟨by rw [g2, hid], by rw [g3, hport]⟩
  ·rw [h1] at he
   obtain ⟨_, _, _, _, hb'⟩ := (a79 h.ok).pe_ok _ _ _ _ q2
   rw [show q - 1 + 1 = q by omega, hback] at hb'
   obtain ⟨e1, e2⟩ := Prod.mk.inj (Option.some.inj hb')
   obtain ⟨hi', i1, _, _, h5'⟩ := b3i (hL im' q1)
   have hid' : im'.2.id = (a08 ns l).id im'.1 := by rw [h5', (hS _ hi').nd]; rfl
   have hport' : ((im'.2.port.toNat : Nat) : Int) = im'.2.port := by
    rw [h5']; show (((i1 : Int) + 1).toNat : Int) = (i1 : Int) + 1; omega
   have hd : d0 = mgD im'.2 (a1v (a07 (S y) (atK k))).nd.id (((q - 1 : Nat) : Int) + 1) := by
    have hh : ∀ r : RS, hrF r (mgD im'.2 (a1v (a07 (S y) (atK k))).nd.id (((q - 1 : Nat) : Int) + 1)) (atK k) = some (d0, ts) -> d0 = mgD im'.2 (a1v (a07 (S y) (atK k))).nd.id (((q - 1 : Nat) : Int) + 1) := by
     intro r hr'
     cases r with
     | none => exact (Prod.mk.inj (Option.some.inj hr')).1.symm
     | some v => obtain ⟨_, _⟩ := v; exact (Prod.mk.inj (Option.some.inj hr')).1.symm
    exact hh _ he
   rw [hd]
   refine ⟨?_, ?_⟩
   ·show im'.2.id = im.2.id
    rw [hid', hid, e1]
   ·show im'.2.port = im.2.port
    rw [<- hport', <- hport, e2]
 ·rw [hD.st]
  show 4 <= stC _
  rcases c3x ((b5y (owD (S y).nd) (bsP (S y) (atK k) 8)).getD (q - 1) 0) with e' | e' | e' <;> rw [e'] <;> decide
end Go.Vx.L42.B
set_option maxRecDepth 100000
namespace Go.Vx.L42.B
open Go Go.Proofs Go.Vx.L42
variable {ns : List Nd} {l : List Ed}
theorem a9l (h : NQ ns l) (S : Nat -> CS) (at' : Int) (x j : Nat) :
  Deliv (a08 ns l) at' (flP S at' ns.length) (a1v (a07 (S x) at')) (a4y (a08 ns l) S at' x) x j := c1f h (b5h S at' ns.length) x j
theorem c74 (c : CS) (at' : Int) (i : Nat) : (a1v (a07 c at')).mrk i = if stC ((b5y (owD c.nd) (bsP c at' 8)).getD i 0) = c.st i then c.mrk i else at' := by simp only [a1v, a07]
theorem c9i (c : CS) (at' : Int) (i : Nat) : (a1v (a07 c at')).st i = stC ((b5y (owD c.nd) (bsP c at' 8)).getD i 0) := by simp only [a1v, a07]
theorem c88 (c : CS) (at' : Int) : (a1v (a07 c at')).nd = c.nd := by simp only [a1v, a07]
theorem c72 (c : CS) (at' : Int) : (a1v (a07 c at')).fol = (a07 c at').fol := by simp only [a1v, a07]
theorem c53 (c : CS) (at' : Int) : (a1v (a07 c at')).last = at' := by simp only [a1v, a07]
theorem c9e (c : CS) (at' : Int) (i : Nat) : (a1v (a07 c at')).rl i = c.rl i := by simp only [a1v, a07]
theorem c7w (c : CS) (at' : Int) (i : Nat) : (a1v (a07 c at')).rc i = fgF (c.rl i) at' (c.rc i) := by simp only [a1v, a07]
theorem c9j (c : CS) (at' : Int) (i : Nat) : (a1v (a07 c at')).an i = anF (a07 c at') i := by simp only [a1v, a07]
theorem c8n (c : CS) (at' : Int) (i : Nat) : (a07 c at').an i = c.an i := by simp only [a07]
theorem c1x (m : MG) (recv rport : Int) : (mgD m recv rport).se = m.id /\ (mgD m recv rport).sp = m.port /\ (mgD m recv rport).re = recv /\ (mgD m recv rport).rp = rport /\ (mgD m recv rport).st = m.d.st /\ (mgD m recv rport).gm = m.d.gm := ⟨rfl, rfl, rfl, rfl, rfl, rfl⟩
theorem c8j {m : MG} {recv rport : Int} (h : bdD m.d) : bdD (mgD m recv rport) := ⟨h.p1, h.cl, h.ac, h.va, h.p2, h.gm⟩
theorem c8l {c : CS} {i : Nat} (h : 0 <= c.an i /\ c.an i <= 65535) : 0 <= anF c i /\ anF c i <= 65535 := by
 unfold anF
 split <;> omega
theorem b8n {r : RS} {d : DS} {at' : Int} {d0 : DS} {ts : List Int} (e : hrF r d at' = some (d0, ts)) : d0 = d := by
 cases r with
 | none => exact (Prod.mk.inj (Option.some.inj e)).1.symm
 | some v => obtain ⟨_, _⟩ := v; exact (Prod.mk.inj (Option.some.inj e)).1.symm
theorem c4x (h : NQ ns l) {k : Nat} (hk : k <= 29) {S : Nat -> CS} (hS : WN ns l k S) : WN ns l (k + 1) (a4y (a08 ns l) S (atK k)) := fun x hx => by
 have hw := hS x hx
 have hD := a9l h S (atK k) x
 have e := a2w k
 obtain ⟨f1, f2, f3, _⟩ := b22 h hS hx (atK k)
 refine {
  nd := (hD 0).nd.trans hw.nd
  fol := ?_
  last := ?_
  rl := fun i hi => ?_
  mrk := fun i hi => ?_
  st := fun i hi => ?_
  an := fun i hi => ?_
  rc := fun i hi => ?_ }
 ·rw [(hD 0).fol, c72]
  exact ⟨f1, f2, by omega⟩
 ·have hl : (a4y (a08 ns l) S (atK k) x).last = atK k := by
   rcases (hD 0).last with a | a
   ·rw [a, c53]
   ·exact a
  rw [hl]; omega
 ·rcases (hD i).port with ⟨a, _⟩ | ⟨_, _, _, _, _, a, _⟩
  ·rw [a.rl, c9e]
   have := hw.rl i hi
   omega
  ·rw [a]; omega
 ·rcases (hD i).port with ⟨a, _⟩ | ⟨_, _, _, _, _, _, a⟩
  ·rw [a.mrk, c74]
   have := hw.mrk i hi
   split <;> omega
  ·rw [a]; omega
 ·rw [(hD i).st, c9i]
  rcases c3x ((b5y (owD (S x).nd) (bsP (S x) (atK k) 8)).getD i 0) with a | a | a
  ·exact .inl a
  ·exact .inr (.inl a)
  ·exact .inr (.inr (.inl a))
 ·rw [(hD i).an, c9j]
  exact c8l (by rw [c8n]; exact hw.an i hi)
 ·have hr := hw.rc i hi
  rcases (hD i).port with ⟨a, _⟩ | ⟨im, q1, q2, _, a, _⟩
  ·rw [a.rc, c7w]
   refine ⟨b1r hr.ok, fun d ts he => ?_⟩
   obtain ⟨g1, g2, g3⟩ := hr.d d ts (b0y he)
   exact ⟨g1, by omega, g3⟩
  ·rw [a, c7w, c88]
   refine ⟨c4c _ _ (b1r hr.ok), fun d ts he => ?_⟩
   have hd := b8n he
   obtain ⟨hi', i1, _, _, h5⟩ := b3i q1
   obtain ⟨g1, g2, g3⟩ := c7e h hS hi' (atK k)
   obtain ⟨_, _, _, _, hb⟩ := (a79 h.ok).pe_ok _ _ _ _ q2
   have hdm : im.2.d = sdD (a07 (S im.1) (atK k)) := by rw [h5]
   have hid : im.2.id = (a08 ns l).id im.1 := by rw [h5, (hS _ hi').nd]; rfl
   have hpm : im.2.port = (i1 : Int) + 1 := by rw [h5]
   have hport : ((im.2.port.toNat : Nat) : Int) = im.2.port := by rw [hpm]; omega
   obtain ⟨m1, m2, m3, m4, m5, _⟩ := c1x im.2 (S x).nd.id ((i : Int) + 1)
   rw [hd]
   refine ⟨c8j (by rw [hdm]; exact g1), by rw [m5, hdm]; omega, im.1, im.2.port.toNat, hb, by rw [m1, hid], by rw [m2, hport], ?_, m4⟩
   rw [m3, hw.nd]; rfl
theorem a69 (h : NQ ns l) : ∀ k, k <= 30 -> WN ns l k (stS ns l k)
 | 0, _ => c4p h
 | k + 1, hk => c4x h (by omega) (a69 h k (by omega))
theorem b8w {X : Int} {ts : List Int} : ∀ (K j : Nat), j < K -> X < ts.getD j 0 -> 0 < rcP X ts K
 | 0, j, h, _ => by omega
 | K + 1, j, h, hx => by
  have h0 := (b9b X ts K).1
  simp only [rcP]
  by_cases hj : j = K
  ·subst hj; rw [if_pos hx]; omega
  ·have := b8w K j (by omega) hx
   split <;> omega
theorem c6k {r : RS} (hr : b49 r) (d : DS) (at' : Int) : ∃ ts, hrF r d at' = some (d, ts) /\ 0 < ts.length /\ ts.getD (ts.length - 1) 0 = at' := by
 cases r with
 | none => exact ⟨[at'], rfl, by simp, rfl⟩
 | some v =>
  obtain ⟨d0, ts⟩ := v
  obtain ⟨h0, h8⟩ := hr d0 ts rfl
  refine ⟨hrT ts at', rfl, (b5j ts at' ⟨h0, h8⟩).1, ?_⟩
  unfold hrT
  split
  ·rw [List.getD_eq_getElem?_getD, List.getElem?_drop, List.length_drop, List.length_append, List.length_singleton, show 1 + (ts.length + 1 - 1 - 1) = ts.length by omega, List.getElem?_append_right (Nat.le_refl _), Nat.sub_self]; rfl
  ·rw [List.getD_eq_getElem?_getD, List.length_append, List.length_singleton, Nat.add_sub_cancel, List.getElem?_append_right (Nat.le_refl _), Nat.sub_self]; rfl
theorem c6b {r : RS} (hr : b49 r) (d : DS) {at' at1 : Int} (h1 : at1 = at' + 1000) : bsF at' at1 (hrF r d at') = some d := by
 obtain ⟨ts, e, h0, h2⟩ := c6k hr d at'
 have hp : 0 < rcN at' at1 ts := by
  unfold rcN
  refine b8w _ (ts.length - 1) (by omega) ?_
  rw [h2]
  unfold lmI
  rw [if_neg (by omega)]
  omega
 unfold bsF
 rw [e]
 show Option.map _ (if 0 < rcN at' at1 ts then some (d, ts) else none) = _
 rw [if_pos hp]; rfl
theorem c7h (h : NQ ns l) {k : Nat} (hk : k <= 29) {S : Nat -> CS} (hS : WN ns l k S) : (a08 ns l).Stp (b04 ns.length S (atK k)) (b04 ns.length (a4y (a08 ns l) S (atK k)) (atK (k + 1))) where
 src := fun x p a d hm => by
  obtain ⟨hc, hb⟩ := b4q hm
  obtain ⟨ts, hf⟩ := b4s hb
  have hf := b0y hf
  have hD := a9l h S (atK k) x (p - 1)
  have hw := hS x hc.1
  rcases hD.port with ⟨q, _⟩ | ⟨im, q1, q2, _, q3, _⟩
  ·rw [q.rc] at hf
   left
   refine ⟨0, c0u hc ?_⟩
   have hf : fgF ((S x).rl (p - 1)) (atK k) ((S x).rc (p - 1)) = some (d, ts) := hf
   unfold bsF
   rw [hf]; rfl
  ·right
   rw [q3] at hf
   have hd := b8n hf
   rw [show p - 1 + 1 = p by omega] at q2
   obtain ⟨_, _, _, _, hback⟩ := (a79 h.ok).pe_ok _ _ _ _ q2
   refine ⟨im.1, im.2.port.toNat, hback, ?_⟩
   rw [b5d h hk hS q1, hd]
   have hid : (a1v (a07 (S x) (atK k))).nd.id = (a08 ns l).id x := by
    show (S x).nd.id = _
    rw [hw.nd]; rfl
   rw [hid, show (((p - 1 : Nat) : Int) + 1) = (p : Int) by omega]
 hear := fun x p y q d hpe hs hgm => by
  obtain ⟨⟨hx, hy⟩, hp, hq, _, hback⟩ := (a79 h.ok).pe_ok _ _ _ _ hpe
  have hx : x < ns.length := hx
  have hw := hS x hx
  obtain ⟨im, him, e1, e2, hd⟩ := c5g h hk hS hback hs
  have hD := a9l h S (atK k) x (p - 1)
  have hid : (a1v (a07 (S x) (atK k))).nd.id = (a08 ns l).id x := by
   show (S x).nd.id = _
   rw [hw.nd]; rfl
  have hpp : p - 1 + 1 = p := by omega
  have htgt : (a08 ns l).pe im.1 im.2.port.toNat = some (x, p - 1 + 1) := by rw [e1, e2, hpp]; exact hback
  have hdg : im.2.d.gm = d.gm := by rw [hd]; rfl
  rcases hD.port with ⟨_, q2⟩ | ⟨im', q1, q2, _, q3, q4, _⟩
  ·exfalso
   have := q2 im him htgt
   rw [hid, hdg] at this
   exact hgm this
  ·have hsame : mgD im'.2 (a1v (a07 (S x) (atK k))).nd.id (((p - 1 : Nat) : Int) + 1) = d := by
    rw [hpp] at q2
    obtain ⟨_, _, _, _, hb'⟩ := (a79 h.ok).pe_ok _ _ _ _ q2
    rw [hpe] at hb'
    obtain ⟨g1, g2⟩ := Prod.mk.inj (Option.some.inj hb')
    have h1 := b5d h hk hS q1 (x := x) (p := p)
    rw [<- g1, <- g2, hs] at h1
    rw [hid, show (((p - 1 : Nat) : Int) + 1) = (p : Int) by omega]
    exact (Option.some.inj h1).symm
   rw [hsame] at q3
   refine ⟨0, c0u ⟨hx, hp⟩ ?_⟩
   rw [q3, q4]
   refine c6b (b1r (hw.rc (p - 1) (by omega)).ok) d ?_
   rw [a2w, a2w]
   have : ((k + 1 : Nat) : Int) = (k : Int) + 1 := rfl
   omega
theorem c5h (h : NQ ns l) (hn : ns.length <= 6) {x : Nat} (hx : x < ns.length) :
  ∃ m k : Nat, m < ns.length /\ exC ns l x ns.length = (m, (k : Int)) /\ (stS ns l 30 x).fol.gm = (ns.getD m nd0).id /\ (0 < k -> (stS ns l 30 x).fol.st + 1 = k) := by
 have h0 : ∀ x p, b04 ns.length (stS ns l 0) (atK 0) x p = none := fun x p => by
  cases hm : b04 ns.length (stS ns l 0) (atK 0) x p with
  | none => rfl
  | some v =>
   obtain ⟨a, d⟩ := v
   obtain ⟨_, hb⟩ := b4q hm
   obtain ⟨ts, hf⟩ := b4s hb
   cases b0y hf
 have hst : ∀ t, t < 29 -> (a08 ns l).Stp (b04 ns.length (stS ns l t) (atK t)) (b04 ns.length (stS ns l (t + 1)) (atK (t + 1))) := fun t ht =>
  c7h h (by omega) (a69 h t (by omega))
 obtain ⟨m, k, h1, h2, h3, h4⟩ := c4s (a79 h.ok) (c76 h.ok) (c13 h.ok) (by show ns.length <= 32; omega) (M := fun t => b04 ns.length (stS ns l t) (atK t)) h0 hst (t := 29) (x := x) (Nat.le_refl _) hx (by show ns.length <= 29 + 1; omega)
 have hf : (stS ns l 30 x).fol = (a08 ns l).fol (b04 ns.length (stS ns l 29) (atK 29)) x := by
  rw [<- b42 (a69 h 29 (by omega)) hx]
  exact (a9l h (stS ns l 29) (atK 29) x 0).fol
 rw [hf]
 exact ⟨m, k, h1, h2, h3, h4⟩
end Go.Vx.L42.B
set_option maxRecDepth 100000
namespace Go.Vx.L42.B
open Go Go.Proofs Go.Vx.L42
theorem b76 : Runs Tryd.prog 10 [] [] (Det (.sb true) []) := by
 have hc : ckE 1 [] [⟨1, 128, 248, 0, 0, 0⟩] = 0 := by decide
 have hz : inI 0 := by unfold inI; omega
 have hw : ∀ x, wfD (owD (([⟨1, 128, 248, 0, 0, 0⟩] : List Nd).getD x nd0)) := by
  intro x
  rcases x with _ | x
  ·refine ⟨?_, ?_, ?_, ?_, ?_, ?_, ?_, ?_, ?_, ?_, ?_⟩ <;> (first | (show inI _; unfold inI; simp [owD]) | (show inU _; unfold inU; simp [owD]))
  ·refine ⟨?_, ?_, ?_, ?_, ?_, ?_, ?_, ?_, ?_, ?_, ?_⟩ <;> (first | (show inI _; unfold inI; simp [owD]) | (show inU _; unfold inU; simp [owD]))
 have hex := (a2u 1 [] none (by decide) [⟨1, 128, 248, 0, 0, 0⟩] (some 1) (by decide) hw).2 hc
 have hE : exL [⟨1, 128, 248, 0, 0, 0⟩] [] 1 = [⟨0, 0⟩] := by
  have e : exC [⟨1, 128, 248, 0, 0, 0⟩] [] 0 1 = (0, 0) := by
   unfold exC b1e
   rw [if_neg (by rintro ⟨_, h⟩; rw [show (b1e (fun y => owD (([⟨1, 128, 248, 0, 0, 0⟩] : List Nd).getD y nd0)) (dsN [⟨1, 128, 248, 0, 0, 0⟩] [] 0) 0 0).1 = 0 from rfl, a94] at h; cases h)]
   rfl
  show [] ++ [_] = _
  rw [show ([⟨1, 128, 248, 0, 0, 0⟩] : List Nd).length = 1 from rfl, e]; rfl
 rw [show ([⟨1, 128, 248, 0, 0, 0⟩] : List Nd).length = 1 from rfl, hE] at hex
 refine Runs.mk a1a Tryd.call10 Tryd.func10 rfl Tryd.ntmps10 Tryd.results10 rfl ?_
 (repeat' (first
  | refine SP ?_
  | refine a01 (by first | exact beq_self_eq_true _ | decide) ?_
  | refine OB ?_
  | ((first | apply a0j [none, some 0] (hex) ); (focus ((iterate 2 (all_goals (repeat' (first | exact a0c | exact trivial | refine SP ?_ | refine And.intro ?_ ?_ | refine a0b ?_ ?_ | refine a0o ?_ | exact a0i rfl rfl rfl | exact a0a _ _ | exact a3a rfl | ((refine a52 ?_); first | with_reducible rfl | omega | ((try simp only [wS]); omega) | rfl) | refine a0y ?_ ?_ | exact a2o | (apply a4e rfl; (focus (refine a0y ?_ ?_))) )))))); any_goals (apply a0k; rfl))
  | (apply a04 []; (focus (iterate 2 (all_goals (repeat' (first | exact trivial | refine And.intro ?_ ?_ | exact a1j rfl ))))); any_goals (apply a0h; rfl))
  ))
end Go.Vx.L42.B
set_option maxRecDepth 100000
namespace Go.Vx.L42.B
open Go Go.Proofs Go.Vx.L42
def b67 (c : Nd) : Bool := decide (255 < c.p1 \/ 255 < c.cl \/ 255 < c.ac \/ 255 < c.p2)
set_option maxHeartbeats 4000000 in
theorem c97 (m : Int) (l : List Ed) (cap : Option Nat) (hl : l.length <= maxLen) (ns : List Nd) (cap' : Option Nat) (hn : ns.length <= maxLen) (hwn : ∀ x, wfD (owD (ns.getD x nd0)))
  (h : 6 < ns.length \/ 20 < l.length \/ (∃ x, x < ns.length /\ b67 (ns.getD x nd0) = true) \/ ckE m l ns ≠ 0) :
  Runs Tryd.prog 3 [aN m l cap ns cap'] [gB l, ndB ns] (Det (.sb true) [gB l, ndB ns]) := by
 have hmx : maxLen = 9223372036854775807 := by decide
 have haw := b76
 have hck := a38 m l cap hl ns cap' hn
 refine Runs.mk a1a Tryd.call3 Tryd.func3 rfl Tryd.ntmps3 Tryd.results3 rfl ?_
 (repeat' (first
  | refine SP ?_
  | (apply a0g <;> intro hb <;> (try simp only [nS, nT, eq_self, reduceCtorEq] at hb) <;> (try (exfalso; fail; done)))
  | refine a0l ?_
  | (apply a04 [some 0, some 1]; (focus (iterate 2 (all_goals (repeat' (first | exact trivial | refine SP ?_ | refine And.intro ?_ ?_ | exact a1b rfl | exact a0f rfl rfl rfl ))))); any_goals (apply a0h; rfl))
  ))
 refine a00 (σ := Nat) (fun x => x <= ns.length /\ ∀ y, y < x -> b67 (ns.getD y nd0) = false) (fun x => ⟨[(1, .ptr 2 3 0 0), (26, .sl 1 6 0 ns.length cap'), (27, .val (.int .i64 ns.length)), (28, .val (.int .i64 x))], [gB l, ndB ns, .var [.val (.int .i64 m), .sl 0 4 0 l.length cap, .sl 1 6 0 ns.length cap']]⟩) (fun x => ns.length - x) (0) ?_ ?_ ?_
 ·exact ⟨by omega, fun y hy => by omega⟩
 ·(apply a0t [some 0, some 1, some 2]; (focus (iterate 2 (all_goals (repeat' (first | exact a0c | exact trivial | refine SP ?_ | refine And.intro ?_ ?_ | refine a0b ?_ ?_ | refine a0n ?_ | exact a0d rfl rfl | exact a0i rfl rfl rfl | exact a0a _ _ | exact a0f rfl rfl rfl ))))); any_goals (apply a0h; rfl))
 rintro x ⟨hx, hxb⟩
 by_cases hxl : x < ns.length
 ·have hz : 0 + Int.toNat (x : Int) = x := by omega
  cases hb0 : b67 (ns.getD x nd0)
  ·have hq := of_decide_eq_false hb0
   rw [<- hz] at hq
   have hstep : ∀ y, y < x + 1 -> b67 (ns.getD y nd0) = false := fun y hy => by
    by_cases e : y = x
    ·rw [e]; exact hb0
    ·exact hxb y (by omega)
   clear hck haw h hb0 hxb
   (repeat' (first
  | refine SP ?_
  | (apply a0g <;> intro hb <;> (try simp only [nS, nT, eq_self, reduceCtorEq] at hb) <;> (try (exfalso; omega)))
  | refine a0l ?_
  | refine OB ?_
  | (apply a0m (Subtype.mk (x + 1) ⟨by omega, hstep⟩); (focus (skip; apply a0t [some 0, some 1, some 2]; (focus (iterate 2 (all_goals (repeat' (first | exact a0c | exact trivial | refine SP ?_ | refine And.intro ?_ ?_ | refine a0b ?_ ?_ | refine a0n ?_ | exact a0d rfl rfl | exact a0i rfl rfl rfl | exact a0a _ _ | exact a0f rfl rfl rfl | ((refine a0r ?_); first | with_reducible rfl | omega | ((try simp only [wS]); omega) | rfl) ))))); any_goals (apply a0h; rfl))); (all_goals (try (first | (simp only; omega)))))
  ))
  ·have hq := of_decide_eq_true hb0
   rw [<- hz] at hq
   clear hck haw h hb0 hxb
   (repeat' (first
  | refine SP ?_
  | (apply a0g <;> intro hb <;> (try simp only [nS, nT, eq_self, reduceCtorEq] at hb) <;> (try (exfalso; omega)))
  | refine a0l ?_
  | refine OB ?_
  | (apply a04 [some 0, some 1]; (focus (iterate 2 (all_goals (repeat' (first | exact trivial | refine SP ?_ | refine And.intro ?_ ?_ | exact a1b rfl | exact a0f rfl rfl rfl ))))); any_goals (apply a0h; rfl))
  ))
 ·obtain rfl : x = ns.length := by omega
  have hc : ckE m l ns ≠ 0 := by
   rcases h with h | h | ⟨y, hy, hb'⟩ | h
   ·omega
   ·omega
   ·rw [hxb y hy] at hb'; cases hb'
   ·exact h
  have hex := (a2u m l cap hl ns cap' hn hwn).1 hc
  clear h hxb
  generalize ckE m l ns = c at *
  (repeat' (first
  | refine SP ?_
  | (apply a0g <;> intro hb <;> (try simp only [nS, nT, eq_self, reduceCtorEq] at hb) <;> (try (exfalso; omega)))
  | refine a0l ?_
  | ((first | apply a0j [some 0, some 1] (hex) ); (focus ((iterate 2 (all_goals (repeat' (first | exact a0c | exact trivial | refine SP ?_ | refine And.intro ?_ ?_ | refine a0b ?_ ?_ | refine a0o ?_ | exact a0i rfl rfl rfl | exact a0a _ _ | exact a0f rfl rfl rfl )))))); any_goals (apply a0k; rfl))
  | ((first | apply a0j [some 0, some 1] (hck) ); (focus ((iterate 2 (all_goals (repeat' (first | exact a0c | exact trivial | refine SP ?_ | refine And.intro ?_ ?_ | refine a0b ?_ ?_ | refine a0o ?_ | exact a0i rfl rfl rfl | exact a0a _ _ | exact a0f rfl rfl rfl )))))); any_goals (apply a0k; rfl))
  | ((first | apply a2d (haw) ); (focus (iterate 2 (all_goals (repeat' (exact a0c))))))
  | (apply a04 [some 0, some 1]; (focus (iterate 2 (all_goals (repeat' (first | exact trivial | refine SP ?_ | refine And.intro ?_ ?_ | exact a1j rfl | exact a0f rfl rfl rfl ))))); any_goals (apply a0h; rfl))
  ))
end Go.Vx.L42.B
set_option maxRecDepth 100000
namespace Go.Vx.L42.B
open Go Go.Proofs Go.Vx.L42
variable {ns : List Nd} {l : List Ed}
theorem b7w (h : NQ ns l) {k : Nat} (hk : k <= 29) {S : Nat -> CS} (hS : WN ns l k S) {j : Nat} (hj : j < ns.length) : 0 <= (a07 (S j) (atK k)).fol.st /\ (a07 (S j) (atK k)).fol.st <= 30 := by
 obtain ⟨_, h2, h3, _⟩ := b22 h hS hj (atK k)
 omega
theorem b7x (h : NQ ns l) {k : Nat} (hk : k <= 29) {S : Nat -> CS} (hS : WN ns l k S) (i x y q : Nat) (hi : i < ns.length) (hx : x < (a16 (a07 (S i) (atK k)) 8).length)
  (hp : (a08 ns l).pe i ((a16 (a07 (S i) (atK k)) 8).getD x mg0).port.toNat = some (y, q)) :
  AnnOK (dlL (a08 ns l) (atK k) (((a16 (a07 (S i) (atK k)) 8).take x).map (Prod.mk i)) (dlL (a08 ns l) (atK k) (flP S (atK k) i) (fun j => a1v (a07 (S j) (atK k)))) y) (q - 1) ((a16 (a07 (S i) (atK k)) 8).getD x mg0) (atK k) := by
 have hmem : ∀ m, m ∈ a16 (a07 (S i) (atK k)) 8 -> ((i, m) : Nat × MG) ∈ flP S (atK k) ns.length := fun m hm => a9t.2 ⟨hi, hm⟩
 generalize hW : a16 (a07 (S i) (atK k)) 8 = W at *
 have key := c73 h hk hS (L := flP S (atK k) i ++ (W.take x).map (Prod.mk i)) (im := (i, W.getD x mg0)) (y := y) (q := q) ?_ ?_ (hmem _ (a4v W x hx)) hp
 ·rw [a6l] at key
  exact key
 ·refine List.Pairwise.sublist ?_ (b5h S (atK k) (i + 1))
  have e : flP S (atK k) (i + 1) = flP S (atK k) i ++ W.map (Prod.mk i) := by rw [<- hW]; rfl
  rw [e]
  exact List.Sublist.append_left ((List.take_sublist _ _).map _) _
 ·intro im him
  rcases List.mem_append.1 him with h1 | h1
  ·obtain ⟨h2, h3⟩ := a9t.1 h1
   exact a9t.2 ⟨by omega, h3⟩
  ·obtain ⟨m, hm, rfl⟩ := List.mem_map.1 h1
   exact hmem m (List.mem_of_mem_take hm)
theorem a6q (k : Nat) : stS ns l (k + 1) = a4y (a08 ns l) (stS ns l k) (atK k) := rfl
theorem b9w (ns : List Nd) (l : List Ed) : ∀ x i, i < x -> (exL ns l x).getD i ch0 = ⟨((exC ns l i ns.length).1 : Int), (exC ns l i ns.length).2⟩
 | 0, i, h => by omega
 | x + 1, i, h => by
  have hl := a5z ns l x
  rw [exL, List.getD_eq_getElem?_getD]
  by_cases hi : i < x
  ·rw [List.getElem?_append_left (by omega), <- List.getD_eq_getElem?_getD, b9w ns l x i hi]
  ·obtain rfl : i = x := by omega
   rw [List.getElem?_append_right (by omega), hl, Nat.sub_self]; rfl
theorem b1s (h : NQ ns l) (hn : ns.length <= 6) {i : Nat} (hi : i < ns.length) :
  (0 <= ((exL ns l ns.length).getD i ch0).m /\ ((exL ns l ns.length).getD i ch0).m < ns.length) /\ (stS ns l 30 i).fol.gm = (ns.getD (((exL ns l ns.length).getD i ch0).m).toNat nd0).id /\
   (0 <= ((exL ns l ns.length).getD i ch0).s /\ ((exL ns l ns.length).getD i ch0).s <= 1000000) /\ (((exL ns l ns.length).getD i ch0).s > 0 -> (stS ns l 30 i).fol.st + 1 = ((exL ns l ns.length).getD i ch0).s) := by
 obtain ⟨m, k, h1, h2, h3, h4⟩ := c5h h hn hi
 have hw := (a69 h 30 (Nat.le_refl _) i hi).fol
 rw [b9w ns l _ i hi, h2]
 refine ⟨by dsimp only; omega, h3, ?_, ?_⟩
 ·dsimp only
  by_cases hk : 0 < k
  ·have := h4 hk
   omega
  ·omega
 ·dsimp only
  intro hk
  exact h4 (by omega)
theorem c9l {ns : List Nd} {l : List Ed} (hN : NOK ns l) (hb : ∀ x, x < ns.length -> b67 (ns.getD x nd0) = false) : NQ ns l := by
 refine ⟨hN, fun x hx => ?_⟩
 have hq := of_decide_eq_false (hb x hx)
 obtain ⟨h1, _, _⟩ := hN.parts.2.2 x hx
 have hw := hN.wf x
 simp only [qlL, List.all_cons, List.all_nil, Bool.and_true, Bool.and_eq_true, wrd, decide_eq_true_eq] at h1
 refine ⟨?_, ?_, ?_, ?_, ?_, hw.gm⟩ <;> (simp only [owD]; omega)
theorem a3d {ns : List Nd} {l : List Ed} (h : NQ ns l) {x : Nat} (hx : x < ns.length) : wfQ (ns.getD x nd0) := by
 have := h.q x hx
 exact ⟨this.p1, this.cl, this.ac, this.va, this.p2⟩
end Go.Vx.L42.B

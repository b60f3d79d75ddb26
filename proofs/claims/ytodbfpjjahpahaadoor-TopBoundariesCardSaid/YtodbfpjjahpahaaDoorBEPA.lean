/- Lemmas of a small executor for the model, and contracts of functions, used for the law that this claim proves. No condition. -/
import Derived.Test.YtodbfpjjahpahaaDoorBEP1
import Derived.Test.YtodbfpjjahpahaaDoorBEAB
import Derived.Test.YtodbfpjjahpahaaDoorBGP18
import Derived.Test.YtodbfpjjahpahaaDoorBE0
set_option linter.unusedSimpArgs false
set_option linter.unusedVariables false
set_option maxRecDepth 100000
namespace Go.Vx.L42
open Go Go.Proofs
theorem b6t {ns : List Nd} : ∀ (k i : Nat), c1z ns k i = 0 -> ∀ j, i <= j -> j < i + k -> c49 ns j = 0
 | 0, i, _, j, h1, h2 => by omega
 | k + 1, i, h, j, h1, h2 => by
  unfold c1z at h
  by_cases hc : c49 ns i = 0
  ·rw [if_neg (by omega)] at h
   by_cases e : j = i
   ·rw [e]; exact hc
   ·exact b6t k (i + 1) h j (by omega) (by omega)
  ·rw [if_pos hc] at h; exact absurd h hc
theorem b7v {ns : List Nd} {i : Nat} (h : c49 ns i = 0) : (qlL (ns.getD i nd0)).all wrd = true /\ b8e ns i i = false /\ 127 < (ns.getD i nd0).cl := by
 unfold c49 at h
 split at h
 ·cases h
 ·split at h
  ·cases h
  ·split at h
   ·cases h
   ·rename_i h1 h2 h3
    exact ⟨by simpa using h1, by simpa using h2, by omega⟩
structure NOK (ns : List Nd) (l : List Ed) : Prop where
 ck : ckE ns.length l ns = 0
 wf : ∀ x, wfD (owD (ns.getD x nd0))
theorem NOK.parts {ns : List Nd} {l : List Ed} (h : NOK ns l) : ckC ns.length l = 0 /\ (1 <= ns.length /\ ns.length <= 24) /\ ∀ i, i < ns.length -> (qlL (ns.getD i nd0)).all wrd = true /\ b8e ns i i = false /\ 127 < (ns.getD i nd0).cl := by
 obtain ⟨h1, _, h3⟩ := b17 h.ck
 obtain ⟨hm, _⟩ := a65 h1
 exact ⟨h1, by omega, fun i hi => b7v (b6t _ 0 h3 i (by omega) (by omega))⟩
abbrev rsN (ns : List Nd) (l : List Ed) : List (List Int) := prR ns.length l ns.length
abbrev c67 (ns : List Nd) (l : List Ed) : List (List Int) := pkA ns.length l ns.length
theorem c68 {ns : List Nd} {l : List Ed} {x : Nat} {p : Int} (h : p ∈ (rsN ns l).getD x []) : x < ns.length /\ (1 <= p /\ p <= 8) /\ (a1r ns.length l x p).2.2 = true := by
 by_cases hx : x < ns.length
 ·rw [a9y _ _ _ _ hx] at h
  exact ⟨hx, (b5e ..).1 h⟩
 ·rw [List.getD_eq_getElem?_getD, List.getElem?_eq_none (by rw [a8s]; omega)] at h
  cases h
theorem c6h {ns : List Nd} {l : List Ed} (hc : ckC ns.length l = 0) {x : Nat} (hx : x < ns.length) (p : Int) : gpF l [(x : Int), p] = ((a1r ns.length l x p).1, (a1r ns.length l x p).2.1) := by
 rw [a4j hc (by omega) (by omega)]; rfl
theorem a5r {ns : List Nd} {l : List Ed} (hc : ckC ns.length l = 0) {x : Nat} {p : Int} (hx : x < ns.length) (h : (a1r ns.length l x p).2.2 = true) :
  ∃ (y : Nat) (q : Int), a1r ns.length l x p = ((y : Int), q, true) /\ y < ns.length /\ (1 <= q /\ q <= 8) /\ a1r ns.length l y q = ((x : Int), p, true) /\ (y : Int) ≠ x /\ (1 <= p /\ p <= 8) := by
 obtain ⟨h1, h2⟩ := b82 hc (a := (x : Int)) (by omega) (by omega) h
 have hb : hasB ns.length l (a1r ns.length l x p).1 = true := by
  cases hq : hasB ns.length l (a1r ns.length l x p).1 with
  | true => rfl
  | false =>
   unfold a1r at h1
   rw [show hasB ns.length l (if hasB (ns.length : Int) l (x : Int) = true then a4a l x p else (0, 0, false)).1 = false from hq] at h1
   simp at h1
 obtain ⟨_, _, h3, _⟩ := a8h hb
 obtain ⟨y, hy⟩ := Int.eq_ofNat_of_zero_le h3.1
 have hr : 1 <= (a1r ns.length l x p).2.1 /\ (a1r ns.length l x p).2.1 <= 8 := by
  have : (a4a l (a1r ns.length l x p).1 (a1r ns.length l x p).2.1).2.2 = true := by
   rw [<- a4j hc h3.1 h3.2, h1]
  exact b6h hc this
 have hp : 1 <= p /\ p <= 8 := by
  rw [a4j hc (by omega) (by omega)] at h
  exact b6h hc h
 refine ⟨y, (a1r ns.length l x p).2.1, ?_, by omega, hr, by rw [<- hy]; exact h1, by rw [<- hy]; exact h2, hp⟩
 rw [<- hy, <- h]
theorem fok {ns : List Nd} {l : List Ed} (h : NOK ns l) : FOK ns (rsN ns l) (c67 ns l) (gpF l) := by
 obtain ⟨hc, hn, hq⟩ := h.parts
 exact {
  n1 := hn.1
  n24 := hn.2
  rl := a8s _ _ _
  row := fun x hx => by rw [a9y _ _ _ _ hx]; exact b5w _ _ _
  prt := fun x p hp => by
   obtain ⟨h1, h2, h3⟩ := c68 hp
   obtain ⟨y, q, h4, h5, h6, _⟩ := a5r hc h1 h3
   refine ⟨h2, (b5n ..).2 ⟨x, h1, p, by rw [a9y _ _ _ _ h1] at hp; exact hp, rfl⟩, ?_⟩
   rw [c6h hc h1, h4]
   exact ⟨⟨by simp, by simp; exact h5⟩, h6⟩
  pk := fun k hk => by
   obtain ⟨z, h1, p, h2, h3⟩ := (b5n ..).1 hk
   exact ⟨z, p, h3, h1, by rw [a9y _ _ _ _ h1]; exact h2⟩
  wf := h.wf
  cl := fun x hx => (hq x hx).2.2 }
theorem a79 {ns : List Nd} {l : List Ed} (h : NOK ns l) : (a08 ns l).OK := by
 obtain ⟨hc, hn, hq⟩ := h.parts
 exact {
  pe_ok := fun x p y q he => by
   have hx : x < ns.length := by
    by_cases hx : x < ns.length
    ·exact hx
    ·exfalso
     have : hasB ns.length l x = false := decide_eq_false (fun e => hx (by omega))
     simp only [a08] at he
     unfold a1r at he
     rw [this] at he
     simp at he
   simp only [a08] at he
   by_cases hk : (a1r ns.length l x p).2.2 = true
   ·rw [if_pos hk] at he
    obtain ⟨y', q', h4, h5, h6, h7, h8, h9⟩ := a5r hc hx hk
    rw [h4] at he
    simp only [Option.some.injEq, Prod.mk.injEq, Int.toNat_natCast] at he
    obtain ⟨e1, e2⟩ := he
    subst e1
    have e3 : q' = (q : Int) := by omega
    rw [e3] at h7 h6
    refine ⟨⟨hx, h5⟩, ⟨by omega, by omega⟩, ⟨by omega, by omega⟩, fun e => h8 (by omega), ?_⟩
    show (if (a1r ns.length l y' q).2.2 = true then some ((a1r ns.length l y' q).1.toNat, (a1r ns.length l y' q).2.1.toNat) else none) = some (x, p)
    rw [h7, if_pos rfl]
    simp
   ·rw [if_neg hk] at he; cases he
  gm := fun x => rfl
  st := fun x => rfl
  rp := fun x => rfl
  inj := fun x y hx hy he => by
   have h1 := b5v _ (hq x hx).2.1
   have h2 := b5v _ (hq y hy).2.1
   rcases Nat.lt_trichotomy x y with h | h | h
   ·exact absurd he (h2 x h)
   ·exact h
   ·exact absurd he.symm (h1 y h) }
end Go.Vx.L42
set_option maxRecDepth 100000
namespace Go.Vx.L42
open Go Go.Proofs
variable {ns : List Nd} {l : List Ed}
end Go.Vx.L42
set_option maxRecDepth 100000
namespace Go.Vx.L42
open Go Go.Proofs
variable {ns : List Nd} {l : List Ed}
end Go.Vx.L42

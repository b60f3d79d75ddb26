/- Lemmas of a small executor for the model, and contracts of functions, used for the law that this claim proves. No condition. -/
import Derived.Test.YtodbfpjjahpahaaGreatDoorEEP1
import Derived.Test.YtodbfpjjahpahaaGreatDoorEEAB
import Derived.Test.YtodbfpjjahpahaaGreatDoorEGP18
import Derived.Test.YtodbfpjjahpahaaGreatDoorEE0
set_option linter.unusedSimpArgs false
set_option linter.unusedVariables false
set_option maxRecDepth 100000
namespace Go.Vx.L58
open Go Go.Proofs
theorem b7o {ns : List Nd} : ∀ (k i : Nat), b69 ns k i = 0 -> ∀ j, i <= j -> j < i + k -> c73 ns j = 0
 | 0, i, _, j, h1, h2 => by omega
 | k + 1, i, h, j, h1, h2 => by
  unfold b69 at h
  by_cases hc : c73 ns i = 0
  ·rw [if_neg (by omega)] at h
   by_cases e : j = i
   ·rw [e]; exact hc
   ·exact b7o k (i + 1) h j (by omega) (by omega)
  ·rw [if_pos hc] at h; exact absurd h hc
theorem b9x {ns : List Nd} {i : Nat} (h : c73 ns i = 0) : (qlL (ns.getD i nd0)).all wrd = true /\ b40 ns i i = false /\ 127 < (ns.getD i nd0).cl := by
 unfold c73 at h
 split at h
 ·cases h
 ·split at h
  ·cases h
  ·split at h
   ·cases h
   ·rename_i h1 h2 h3
    exact ⟨by simpa using h1, by simpa using h2, by omega⟩
structure NOK (ns : List Nd) (l : List Ed) : Prop where
 ck : ckE ns.length l ns = 0
 wf : ∀ x, wfD (owD (ns.getD x nd0))
theorem NOK.parts {ns : List Nd} {l : List Ed} (h : NOK ns l) : ckC ns.length l = 0 /\ (1 <= ns.length /\ ns.length <= 24) /\ ∀ i, i < ns.length -> (qlL (ns.getD i nd0)).all wrd = true /\ b40 ns i i = false /\ 127 < (ns.getD i nd0).cl := by
 obtain ⟨h1, _, h3⟩ := a5h h.ck
 obtain ⟨hm, _⟩ := a6m h1
 exact ⟨h1, by omega, fun i hi => b9x (b7o _ 0 h3 i (by omega) (by omega))⟩
abbrev rsN (ns : List Nd) (l : List Ed) : List (List Int) := prR ns.length l ns.length
abbrev a6w (ns : List Nd) (l : List Ed) : List (List Int) := pkA ns.length l ns.length
theorem b4h {ns : List Nd} {l : List Ed} {x : Nat} {p : Int} (h : p ∈ (rsN ns l).getD x []) : x < ns.length /\ (1 <= p /\ p <= 8) /\ (a1h ns.length l x p).2.2 = true := by
 by_cases hx : x < ns.length
 ·rw [a5m _ _ _ _ hx] at h
  exact ⟨hx, (b2f ..).1 h⟩
 ·rw [List.getD_eq_getElem?_getD, List.getElem?_eq_none (by rw [a4a]; omega)] at h
  cases h
theorem c3q {ns : List Nd} {l : List Ed} {x : Nat} {p : Int} (hx : x < ns.length) (hp : 1 <= p /\ p <= 8) (h : (a1h ns.length l x p).2.2 = true) : p ∈ (rsN ns l).getD x [] := by
 rw [a5m _ _ _ _ hx]; exact (b2f ..).2 ⟨hp, h⟩
theorem b26 {ns : List Nd} {l : List Ed} (hc : ckC ns.length l = 0) {x : Nat} (hx : x < ns.length) (p : Int) : gpF l [(x : Int), p] = ((a1h ns.length l x p).1, (a1h ns.length l x p).2.1) := by
 rw [a3a hc (by omega) (by omega)]; rfl
theorem a5g {ns : List Nd} {l : List Ed} (hc : ckC ns.length l = 0) {x : Nat} {p : Int} (hx : x < ns.length) (h : (a1h ns.length l x p).2.2 = true) :
  ∃ (y : Nat) (q : Int), a1h ns.length l x p = ((y : Int), q, true) /\ y < ns.length /\ (1 <= q /\ q <= 8) /\ a1h ns.length l y q = ((x : Int), p, true) /\ (y : Int) ≠ x /\ (1 <= p /\ p <= 8) := by
 obtain ⟨h1, h2⟩ := c0x hc (a := (x : Int)) (by omega) (by omega) h
 have hb : hasB ns.length l (a1h ns.length l x p).1 = true := by
  cases hq : hasB ns.length l (a1h ns.length l x p).1 with
  | true => rfl
  | false =>
   unfold a1h at h1
   rw [show hasB ns.length l (if hasB (ns.length : Int) l (x : Int) = true then a2d l x p else (0, 0, false)).1 = false from hq] at h1
   simp at h1
 obtain ⟨_, _, h3, _⟩ := a8k hb
 obtain ⟨y, hy⟩ := Int.eq_ofNat_of_zero_le h3.1
 have hr : 1 <= (a1h ns.length l x p).2.1 /\ (a1h ns.length l x p).2.1 <= 8 := by
  have : (a2d l (a1h ns.length l x p).1 (a1h ns.length l x p).2.1).2.2 = true := by
   rw [<- a3a hc h3.1 h3.2, h1]
  exact b7p hc this
 have hp : 1 <= p /\ p <= 8 := by
  rw [a3a hc (by omega) (by omega)] at h
  exact b7p hc h
 refine ⟨y, (a1h ns.length l x p).2.1, ?_, by omega, hr, by rw [<- hy]; exact h1, by rw [<- hy]; exact h2, hp⟩
 rw [<- hy, <- h]
theorem fok {ns : List Nd} {l : List Ed} (h : NOK ns l) : FOK ns (rsN ns l) (a6w ns l) (gpF l) := by
 obtain ⟨hc, hn, hq⟩ := h.parts
 exact {
  n1 := hn.1
  n24 := hn.2
  rl := a4a _ _ _
  row := fun x hx => by rw [a5m _ _ _ _ hx]; exact b3v _ _ _
  prt := fun x p hp => by
   obtain ⟨h1, h2, h3⟩ := b4h hp
   obtain ⟨y, q, h4, h5, h6, _⟩ := a5g hc h1 h3
   refine ⟨h2, (b0o ..).2 ⟨x, h1, p, by rw [a5m _ _ _ _ h1] at hp; exact hp, rfl⟩, ?_⟩
   rw [b26 hc h1, h4]
   exact ⟨⟨by simp, by simp; exact h5⟩, h6⟩
  pk := fun k hk => by
   obtain ⟨z, h1, p, h2, h3⟩ := (b0o ..).1 hk
   exact ⟨z, p, h3, h1, by rw [a5m _ _ _ _ h1]; exact h2⟩
  wf := h.wf
  cl := fun x hx => (hq x hx).2.2 }
theorem pok {ns : List Nd} {l : List Ed} (h : NOK ns l) : POK ns.length (rsN ns l) (gpF l) := by
 obtain ⟨hc, hn, hq⟩ := h.parts
 refine ⟨fun x hx p hp => ?_, fun x => ?_⟩
 ·obtain ⟨h1, h2, h3⟩ := b4h hp
  obtain ⟨y, q, h4, h5, h6, h7, _⟩ := a5g hc h1 h3
  refine ⟨y, q, by rw [b26 hc h1, h4], h5, c3q h5 h6 (by rw [h7]), by rw [b26 hc h5, h7]⟩
 ·by_cases hx : x < ns.length
  ·rw [a5m _ _ _ _ hx]; exact c1s _ _ _
  ·rw [List.getD_eq_getElem?_getD, List.getElem?_eq_none (by rw [a4a]; omega)]; simp
theorem b2z {ns : List Nd} {l : List Ed} (h : NOK ns l) : (a1v ns l).OK := by
 obtain ⟨hc, hn, hq⟩ := h.parts
 exact {
  pe_ok := fun x p y q he => by
   have hx : x < ns.length := by
    by_cases hx : x < ns.length
    ·exact hx
    ·exfalso
     have : hasB ns.length l x = false := decide_eq_false (fun e => hx (by omega))
     simp only [a1v] at he
     unfold a1h at he
     rw [this] at he
     simp at he
   simp only [a1v] at he
   by_cases hk : (a1h ns.length l x p).2.2 = true
   ·rw [if_pos hk] at he
    obtain ⟨y', q', h4, h5, h6, h7, h8, h9⟩ := a5g hc hx hk
    rw [h4] at he
    simp only [Option.some.injEq, Prod.mk.injEq, Int.toNat_natCast] at he
    obtain ⟨e1, e2⟩ := he
    subst e1
    have e3 : q' = (q : Int) := by omega
    rw [e3] at h7 h6
    refine ⟨⟨hx, h5⟩, ⟨by omega, by omega⟩, ⟨by omega, by omega⟩, fun e => h8 (by omega), ?_⟩
    show (if (a1h ns.length l y' q).2.2 = true then some ((a1h ns.length l y' q).1.toNat, (a1h ns.length l y' q).2.1.toNat) else none) = some (x, p)
    rw [h7, if_pos rfl]
    simp
   ·rw [if_neg hk] at he; cases he
  gm := fun x => rfl
  st := fun x => rfl
  rp := fun x => rfl
  inj := fun x y hx hy he => by
   have h1 := b79 _ (hq x hx).2.1
   have h2 := b79 _ (hq y hy).2.1
   rcases Nat.lt_trichotomy x y with h | h | h
   ·exact absurd he (h2 x h)
   ·exact h
   ·exact absurd he.symm (h1 y h) }
end Go.Vx.L58
set_option maxRecDepth 100000
namespace Go.Vx.L58
open Go Go.Proofs
theorem a9e (s : MS) (x p : Nat) : a2a s x p = (a15 s [(x : Int), (p : Int)]).map fun m => (m.age, m.set) := by
 unfold a2a a15
 split <;> rfl
def SOK' (ns : List Nd) (pk : List (List Int)) (s : MS) : Prop := ∀ k m, a15 s k = some m -> k = [m.node, m.port] /\ vlM ns pk m = true /\ wfD m.set
theorem SOK.to' {ns : List Nd} {pk : List (List Int)} {s : MS} (h : SOK ns pk s) : SOK' ns pk s := fun k m hm => by
 unfold a15 at hm
 split at hm
 ·rename_i hc
  have hk := List.contains_iff_mem.1 hc
  obtain rfl := Option.some.inj hm
  exact ⟨h.key k hk, h.vl k hk, h.wf k hk⟩
 ·cases hm
theorem SOK'.of {ns : List Nd} {pk : List (List Int)} {s : MS} (h : SOK' ns pk s) : SOK ns pk s := by
 have key : ∀ k ∈ s.ks, a15 s k = some (s.g k) := fun k hk => by
  unfold a15; rw [if_pos (List.contains_iff_mem.2 hk)]
 exact ⟨fun k hk => (h k _ (key k hk)).1, fun k hk => (h k _ (key k hk)).2.1, fun k hk => (h k _ (key k hk)).2.2⟩
variable {ns : List Nd} {l : List Ed}
theorem c9z (s : MS) {u y : Nat} {v q : Nat} (hv : 1 <= v) (hg : gpF l [(u : Int), (v : Int)] = ((y : Int), (q : Int))) :
  sd1 ns (gpF l) s u v = (a1v ns l).snd (a2a s) u v y q := by
 unfold sd1 NetP.snd NetP.cod NetP.fol
 rw [hg, b20]
 have e1 : ((v : Int) - 1).toNat = v - 1 := by omega
 rw [e1]
 show (if ann (a4v (owD (ns.getD u nd0)) (hrd (a2a s) u) (v - 1)) = true then _ else none) = if ann (a4v (owD (ns.getD u nd0)) (hrd (a2a s) u) (v - 1)) = true then _ else none
 by_cases hA : ann (a4v (owD (ns.getD u nd0)) (hrd (a2a s) u) (v - 1)) = true
 ·rw [if_pos hA, if_pos hA]
  simp only [Int.toNat_natCast]
  unfold b36
  show _ = if a5r (owD (ns.getD u nd0)) (hrd (a2a s) u) = owD (ns.getD u nd0) then _ else _
  by_cases h1 : a5r (owD (ns.getD u nd0)) (hrd (a2a s) u) = owD (ns.getD u nd0)
  ·rw [if_pos h1, if_pos h1]; rfl
  ·rw [if_neg h1, if_neg h1]
   show _ = if (a5r (owD (ns.getD u nd0)) (hrd (a2a s) u)).st + 1 < 32 then _ else none
   by_cases h2 : (a5r (owD (ns.getD u nd0)) (hrd (a2a s) u)).st + 1 < 32
   ·rw [if_pos h2, if_pos h2]; rfl
   ·rw [if_neg h2, if_neg h2]; rfl
 ·rw [if_neg hA, if_neg hA]
theorem d2b (h : NOK ns l) {s : MS} (hS : SOK ns (a6w ns l) s) {u y : Nat} {v q : Int} (hg : gpF l [(u : Int), v] = ((y : Int), q)) (hu : u < ns.length) (hv : 1 <= v /\ v <= 8) (hq : 1 <= q /\ q <= 8) (hy : y < ns.length) (hk : [(y : Int), q] ∈ a6w ns l) {d : DS} (hd : sd1 ns (gpF l) s u v = some d) :
  vlM ns (a6w ns l) ⟨y, q, 0, d⟩ = true /\ wfD d := by
 obtain ⟨hc, hn, hQ⟩ := h.parts
 have hu2 := hQ u hu
 have hwu := h.wf u
 have hwy := h.wf y
 have hid := hwy.gm
 unfold sd1 at hd
 rw [hg] at hd
 split at hd
 ·split at hd
  ·rename_i hA h2
   have hd := Option.some.inj hd
   simp only [Int.toNat_natCast] at hd h2
   have hall : ∀ (f : DS) (st : Int), [f.p1, f.cl, f.ac, f.va, f.p2].all wrd = true -> 0 <= st /\ st < 32 -> wfD f -> d = { f with st := st, se := (ns.getD u nd0).id, sp := v, re := (ns.getD y nd0).id, rp := q } -> vlM ns (a6w ns l) ⟨y, q, 0, d⟩ = true /\ wfD d := by
    intro f st hwd hst hwf e
    subst e
    refine ⟨?_, ⟨hwf.p1, hwf.cl, hwf.ac, hwf.va, hwf.p2, hwf.gm, ?_, hwu.gm, ?_, hwy.gm, ?_⟩⟩
    ·unfold vlM
     refine decide_eq_true ⟨List.contains_iff_mem.2 hk, ⟨Int.le_refl 0, by show (0 : Int) < 3; omega⟩, hst, ?_, ?_, rfl⟩
     ·have a1 : wrd v = true := decide_eq_true (by omega)
      have a2 : wrd q = true := decide_eq_true (by omega)
      simp only [List.all_cons, List.all_nil, Bool.and_true, Bool.and_eq_true] at hwd ⊢
      exact ⟨hwd.1, hwd.2.1, hwd.2.2.1, hwd.2.2.2.1, hwd.2.2.2.2, a1, a2⟩
     ·show (ns.getD y nd0).id = (ns.getD ((y : Int).toNat) nd0).id
      rw [Int.toNat_natCast]
    ·show inI st; unfold inI; omega
    ·show inI v; unfold inI; omega
    ·show inI q; unfold inI; omega
   unfold b36 at hd h2
   by_cases h3 : a5r (owD (ns.getD u nd0)) (hrX s u 8) = owD (ns.getD u nd0)
   ·rw [if_pos h3] at hd
    exact hall (owD (ns.getD u nd0)) 0 hu2.1 (by decide) hwu hd.symm
   ·rw [if_neg h3] at hd h2
    by_cases h4 : (a5r (owD (ns.getD u nd0)) (hrX s u 8)).st + 1 < 32
    ·rw [if_pos h4] at hd
     have hfs := c19 hS (owD (ns.getD u nd0)) rfl u
     have hf : ∃ k ∈ s.ks, a5r (owD (ns.getD u nd0)) (hrX s u 8) = (s.g k).set := by
      have h5 : ¬ a2u (owD (ns.getD u nd0)) (hrX s u 8) = true := fun e => h3 (by unfold a5r; rw [if_pos e])
      have h6 : a5r (owD (ns.getD u nd0)) (hrX s u 8) = a1p (hrX s u 8) (a2w (hrX s u 8)).toNat := by unfold a5r; rw [if_neg h5]
      rcases a9c (hrX s u 8) (hrX s u 8).length with ⟨b1, _⟩ | ⟨_, b2, _⟩
      ·exact absurd (by unfold a2u a2w; rw [b1]; rfl) h5
      ·rw [h6]
       have b2 : a3x (hrX s u 8) (a2w (hrX s u 8)).toNat = true := b2
       unfold a3x at b2
       unfold a1p
       rw [b59] at b2 ⊢
       split
       ·rename_i h7
        exact ⟨_, List.contains_iff_mem.1 h7.2.2, rfl⟩
       ·rename_i h7
        rw [if_neg h7] at b2; cases b2
     obtain ⟨k, hk1, hk2⟩ := hf
     have hvl := a2x (hS.vl k hk1)
     refine hall (a5r (owD (ns.getD u nd0)) (hrX s u 8)) _ ?_ (by omega) (by rw [hk2]; exact hS.wf k hk1) hd.symm
     rw [hk2]
     have := hvl.2.2.2.1
     simp only [List.all_cons, List.all_nil, Bool.and_true, Bool.and_eq_true] at this ⊢
     exact ⟨this.1, this.2.1, this.2.2.1, this.2.2.2.1, this.2.2.2.2.1⟩
    ·rw [if_neg h4] at h2; cases h2
  ·cases hd
 ·cases hd
theorem c0z {m : Mm} (h : vlM ns (a6w ns l) m = true) (ha : m.age + 1 < 3) : vlM ns (a6w ns l) (c3g m) = true := by
 obtain ⟨h1, h2, h3⟩ := a2x h
 unfold vlM
 exact decide_eq_true ⟨List.contains_iff_mem.2 h1, ⟨by show 0 <= m.age + 1; omega, ha⟩, h3⟩
theorem b7t (h : NOK ns l) {k : List Int} : (∃ (y : Nat) (q : Int) (u : Nat) (v : Int), k = [(y : Int), q] /\ (y < ns.length /\ (1 <= q /\ q <= 8) /\ q ∈ (rsN ns l).getD y [] /\ (a1h ns.length l y q) = ((u : Int), v, true)) /\ (u < ns.length /\ (1 <= v /\ v <= 8) /\ v ∈ (rsN ns l).getD u []) /\ gpF l [(u : Int), v] = ((y : Int), q) /\ k ∈ a6w ns l) \/
  (k ∉ a6w ns l /\ ∀ (y : Nat) (q : Int), y < ns.length -> q ∈ (rsN ns l).getD y [] -> k ≠ [(y : Int), q]) := by
 obtain ⟨hc, hn, hQ⟩ := h.parts
 have hF := fok h
 by_cases hk : k ∈ a6w ns l
 ·left
  obtain ⟨y, q, rfl, hy, hq⟩ := hF.pk k hk
  obtain ⟨h1, h2, h3⟩ := b4h hq
  obtain ⟨u, v, h4, h5, h6, h7, _⟩ := a5g hc h1 h3
  exact ⟨y, q, u, v, rfl, ⟨hy, h2, hq, h4⟩, ⟨h5, h6, c3q h5 h6 (by rw [h7])⟩, by rw [b26 hc h5, h7], hk⟩
 ·exact .inr ⟨hk, fun y q hy hq e => hk (e ▸ (hF.prt y q hq).2.1)⟩
theorem b3n (h : NOK ns l) {s : MS} (hS : SOK ns (a6w ns l) s) {k : List Int} (hk : k ∉ a6w ns l) : a15 s k = none := by
 cases hm : a15 s k with
 | none => rfl
 | some m =>
  obtain ⟨h1, h2, _⟩ := hS.to' k m hm
  exact absurd (h1 ▸ (a2x h2).1) hk
theorem b70 (h : NOK ns l) {s : MS} (hS : SOK ns (a6w ns l) s) {W : List (List Int)} (hW : ∀ k, k ∈ W ↔ k ∈ s.ks) : SOK ns (a6w ns l) (sdA ns (rsN ns l) (gpF l) s (agS s W) ns.length) /\ a2a (sdA ns (rsN ns l) (gpF l) s (agS s W) ns.length) = (a1v ns l).rnd (a2a s) := by
 obtain ⟨hc, hn, hQ⟩ := h.parts
 have hP := pok h
 have hag : ∀ k m, a15 (agS s W) k = some m -> k = [m.node, m.port] /\ vlM ns (a6w ns l) m = true /\ wfD m.set := fun k m hm => by
  rw [b2k s W hW] at hm
  cases hq : a15 s k with
  | none => rw [hq] at hm; cases hm
  | some m0 =>
   rw [hq] at hm
   dsimp only at hm
   obtain ⟨a1, a2, a3⟩ := hS.to' k m0 hq
   split at hm
   ·rename_i ha
    obtain rfl := Option.some.inj hm
    exact ⟨a1, c0z a2 ha, a3⟩
   ·cases hm
 refine ⟨SOK'.of fun k m hm => ?_, funext fun y => funext fun q => ?_⟩
 ·rcases b7t h (k := k) with ⟨y, q, u, v, rfl, ⟨hy, hq, hqr, hpe⟩, ⟨hu, hv, hvr⟩, hg, hkp⟩ | ⟨hk, hno⟩
  ·rw [c2u hP s (agS s W) hg hu hvr ns.length (Nat.le_refl _), if_pos hu] at hm
   unfold b2x at hm
   cases hd : sd1 ns (gpF l) s u v with
   | some d =>
    rw [hd] at hm
    obtain rfl := Option.some.inj hm
    obtain ⟨b1, b2⟩ := d2b h hS hg hu hv hq hy hkp hd
    exact ⟨rfl, b1, b2⟩
   | none => rw [hd] at hm; exact hag _ _ hm
  ·rw [b0j hP s (agS s W) hno ns.length (Nat.le_refl _)] at hm
   exact hag _ _ hm
 ·rw [a9e]
  show _ = match (a1v ns l).pe y q with | none => none | some (u, v) => _
  rcases b7t h (k := [(y : Int), (q : Int)]) with ⟨y', q', u, v, e, ⟨hy, hq, hqr, hpe⟩, ⟨hu, hv, hvr⟩, hg, hkp⟩ | ⟨hk, hno⟩
  ·simp only [List.cons.injEq, and_true] at e
   obtain ⟨e1, e2⟩ := e
   have e1 : y' = y := by omega
   subst e1
   subst e2
   have hpy : (a1v ns l).pe y' q = some (u, v.toNat) := by
    show (if (a1h ns.length l y' q).2.2 = true then some ((a1h ns.length l y' q).1.toNat, (a1h ns.length l y' q).2.1.toNat) else none) = _
    rw [hpe, if_pos rfl]; simp
   rw [hpy, c2u hP s (agS s W) hg hu hvr ns.length (Nat.le_refl _), if_pos hu]
   obtain ⟨v', rfl⟩ : ∃ v' : Nat, v = v' := ⟨v.toNat, by omega⟩
   have hsd := c9z (ns := ns) s (l := l) (u := u) (y := y') (v := v') (q := q) (by omega) hg
   unfold b2x
   rw [hsd]
   simp only [Int.toNat_natCast]
   cases hsn : (a1v ns l).snd (a2a s) u v' y' q with
   | some d => rfl
   | none =>
    simp only
    rw [b2k s W hW, a9e]
    cases hm : a15 s [(y' : Int), (q : Int)] with
    | none => rfl
    | some m =>
     simp only [Option.map_some]
     split <;> rfl
  ·rw [b0j hP s (agS s W) hno ns.length (Nat.le_refl _), b2k s W hW, b3n h hS hk]
   have hpy : (a1v ns l).pe y q = none := by
    cases hq : (a1v ns l).pe y q with
    | none => rfl
    | some uv =>
     exfalso
     obtain ⟨⟨a1, _⟩, a2, _⟩ := (b2z h).pe_ok y q uv.1 uv.2 hq
     have : (a1h ns.length l y q).2.2 = true := by
      simp only [a1v] at hq
      split at hq
      ·assumption
      ·cases hq
     exact hno y q a1 (c3q a1 ⟨by omega, by omega⟩ this) rfl
   rw [hpy]; rfl
end Go.Vx.L58
set_option maxRecDepth 100000
namespace Go.Vx.L58
open Go Go.Proofs
variable {ns : List Nd} {l : List Ed}
def lxP (M : Mem) (x : Nat) (acc : List Mm) (p : Int) : List Mm := match M x p.toNat with
 | some (a, d) => acc ++ [⟨x, p, a, d⟩]
 | none => acc
def lxA (rs : List (List Int)) (M : Mem) : Nat -> List Mm
 | 0 => []
 | x + 1 => (rs.getD x []).foldl (lxP M x) (lxA rs M x)
abbrev lsX (n : Nat) (rs : List (List Int)) (M : Mem) : List Mm := lxA rs M n
theorem c8d {s : MS} (hS : SOK ns (a6w ns l) s) : ∀ x, lsA (rsN ns l) s x = lxA (rsN ns l) (a2a s) x
 | 0 => rfl
 | x + 1 => by
  unfold lsA lxA
  rw [c8d hS x]
  have key : ∀ (L : List Int) (acc : List Mm), (∀ p ∈ L, p ∈ (rsN ns l).getD x []) -> L.foldl (lsP s x) acc = L.foldl (lxP (a2a s) x) acc := by
   intro L
   induction L with
   | nil => intro acc _; rfl
   | cons p L ih =>
    intro acc hL
    rw [List.foldl_cons, List.foldl_cons]
    have e : lsP s x acc p = lxP (a2a s) x acc p := by
     obtain ⟨_, hp, _⟩ := b4h (hL p (by simp))
     have hpn : ((p.toNat : Nat) : Int) = p := by omega
     unfold lsP lxP a2a
     rw [hpn]
     by_cases hc : s.ks.contains [(x : Int), p] = true
     ·rw [if_pos hc, if_pos hc]
      have hk := hS.key _ (List.contains_iff_mem.1 hc)
      simp only [List.cons.injEq, and_true] at hk
      simp only
      congr 2
      cases hm : s.g [(x : Int), p] with
      | mk a b c d =>
       rw [hm] at hk
       obtain ⟨rfl, rfl⟩ := hk
       rfl
     ·rw [if_neg hc, if_neg hc]
    rw [e]
    exact ih _ fun p' h' => hL p' (by simp [h'])
  exact key _ _ fun p h => h
theorem b7s (s : MS) (m : Mm) (k : List Int) : a15 (ad1 s m) k = if k = [m.node, m.port] then some m else a15 s k := by
 unfold a15 ad1
 simp only [a6a]
 by_cases h : k = [m.node, m.port]
 ·have hb : (k == [m.node, m.port]) = true := by simpa using h
  rw [if_pos h, hb, Bool.or_true, if_pos rfl, cond_true]
 ·have hb : (k == [m.node, m.port]) = false := by simpa using h
  rw [if_neg h, hb, Bool.or_false, cond_false]
theorem b25 (ms : List Mm) : ∀ (x : Nat) (k : List Int) (m : Mm), a15 (b24 ms x) k = some m -> ∃ i, i < x /\ ms.getD i mm0 = m /\ k = [m.node, m.port]
 | 0, k, m, h => by simp [b24, a15] at h
 | x + 1, k, m, h => by
  rw [b24, b7s] at h
  split at h
  ·rename_i hk
   obtain rfl := Option.some.inj h
   exact ⟨x, by omega, rfl, hk⟩
  ·obtain ⟨i, h1, h2, h3⟩ := b25 ms x k m h
   exact ⟨i, by omega, h2, h3⟩
theorem a79 {ms : List Mm} (hL : okL ns (a6w ns l) ms = true) (hw : ∀ m ∈ ms, wfD m.set) : SOK ns (a6w ns l) (b0p ms) :=
 SOK'.of fun k m hm => by
  obtain ⟨i, h1, h2, h3⟩ := b25 ms ms.length k m hm
  have hmem : m ∈ ms := h2 ▸ a2s ms i mm0 h1
  unfold okL at hL
  rw [List.all_eq_true] at hL
  have := hL i (List.mem_range.2 h1)
  unfold okM at this
  rw [Bool.and_eq_true, h2] at this
  exact ⟨h3, this.1, hw m hmem⟩
def VS (ns : List Nd) (l : List Ed) (M : Mem) : Prop := ∀ x p a d, M x p = some (a, d) -> vlM ns (a6w ns l) ⟨x, p, a, d⟩ = true /\ wfD d
theorem d3t {s : MS} (hS : SOK ns (a6w ns l) s) : VS ns l (a2a s) := fun x p a d h => by
 rw [a9e] at h
 cases hm : a15 s [(x : Int), (p : Int)] with
 | none => rw [hm] at h; cases h
 | some m =>
  rw [hm] at h
  simp only [Option.map_some, Option.some.injEq, Prod.mk.injEq] at h
  obtain ⟨h1, h2, h3⟩ := hS.to' _ m hm
  simp only [List.cons.injEq, and_true] at h1
  obtain ⟨rfl, rfl⟩ := h
  cases m with
  | mk a b c d =>
   obtain ⟨rfl, rfl⟩ := h1
   exact ⟨h2, h3⟩
def lt2 (k k' : Int × Int) : Prop := k.1 < k'.1 \/ (k.1 = k'.1 /\ k.2 < k'.2)
def mk2 (m : Mm) : Int × Int := (m.node, m.port)
structure LX (M : Mem) (A : List Mm) (b : Int × Int) : Prop where
 mem : ∀ m ∈ A, ∃ x p : Nat, m.node = x /\ m.port = p /\ M x p = some (m.age, m.set)
 low : ∀ m ∈ A, lt2 (mk2 m) b
 srt : A.Pairwise fun m m' => lt2 (mk2 m) (mk2 m')
theorem b4g {a b c : Int × Int} (h : lt2 a b) (g : lt2 b c) : lt2 a c := by
 unfold lt2 at *; omega
theorem LX.up {M : Mem} {A : List Mm} {b b' : Int × Int} (h : LX M A b) (hb : lt2 b b' \/ b = b') : LX M A b' :=
 ⟨h.mem, fun m hm => by
  rcases hb with hb | rfl
  ·exact b4g (h.low m hm) hb
  ·exact h.low m hm, h.srt⟩
theorem c4k {M : Mem} {x : Nat} : ∀ (L : List Int) (A : List Mm) (b : Int), LX M A ((x : Int), b) -> (∀ p ∈ L, b <= p /\ 1 <= p) -> L.Pairwise (· < ·) -> ∃ b', LX M (L.foldl (lxP M x) A) ((x : Int), b')
 | [], A, b, h, _, _ => ⟨b, h⟩
 | p :: L, A, b, h, hb, hs => by
  rw [List.foldl_cons]
  have hp := hb p (by simp)
  rw [List.pairwise_cons] at hs
  refine c4k L _ (p + 1) ?_ (fun p' hp' => ⟨by have := hs.1 p' hp'; omega, by have := hs.1 p' hp'; omega⟩) hs.2
  unfold lxP
  have hup : LX M A ((x : Int), p + 1) := h.up (.inl (.inr ⟨rfl, by show b < p + 1; omega⟩))
  cases hm : M x p.toNat with
  | none => exact hup
  | some v =>
   obtain ⟨a, d⟩ := v
   simp only
   refine ⟨fun m hmm => ?_, fun m hmm => ?_, ?_⟩
   ·rcases List.mem_append.1 hmm with hmm | hmm
    ·exact h.mem m hmm
    ·simp only [List.mem_singleton] at hmm
     subst hmm
     exact ⟨x, p.toNat, rfl, by show p = _; omega, hm⟩
   ·rcases List.mem_append.1 hmm with hmm | hmm
    ·exact hup.low m hmm
    ·simp only [List.mem_singleton] at hmm
     subst hmm
     exact .inr ⟨rfl, by show p < p + 1; omega⟩
   ·rw [List.pairwise_append]
    refine ⟨h.srt, List.pairwise_singleton _ _, fun m hmm m' hm' => ?_⟩
    simp only [List.mem_singleton] at hm'
    subst hm'
    have := h.low m hmm
    unfold lt2 mk2 at *
    simp only at *
    omega
theorem c0h (n : Int) (l : List Ed) (a : Int) : (rpL n l a 8).Pairwise (· < ·) := by
 unfold rpL
 exact List.Pairwise.filter _ (by decide)
theorem c1r (x : Nat) : ((rsN ns l).getD x []).Pairwise (· < ·) := by
 by_cases hx : x < ns.length
 ·rw [a5m _ _ _ _ hx]; exact c0h _ _ _
 ·rw [List.getD_eq_getElem?_getD, List.getElem?_eq_none (by rw [a4a]; omega)]; simp
theorem c6r (M : Mem) : ∀ x, LX M (lxA (rsN ns l) M x) ((x : Int), 0)
 | 0 => ⟨fun m hm => by simp [lxA] at hm, fun m hm => by simp [lxA] at hm, by simp [lxA]⟩
 | x + 1 => by
  obtain ⟨b', h⟩ := c4k ((rsN ns l).getD x []) _ 0 (c6r M x) (fun p hp => by obtain ⟨_, h, _⟩ := b4h hp; omega) (c1r x)
  exact h.up (.inl (.inl (by show (x : Int) < ((x + 1 : Nat) : Int); omega)))
theorem c74 (M : Mem) {y : Nat} {q : Nat} {a : Int} {d : DS} (hq : (q : Int) ∈ (rsN ns l).getD y []) (hM : M y q = some (a, d)) : ∀ x, y < x -> (⟨y, q, a, d⟩ : Mm) ∈ lxA (rsN ns l) M x
 | 0, h => by omega
 | x + 1, h => by
  have keep : ∀ (L : List Int) (A : List Mm) (m : Mm), m ∈ A -> m ∈ L.foldl (lxP M x) A := by
   intro L
   induction L with
   | nil => intro A m hm; exact hm
   | cons p L ih =>
    intro A m hm
    rw [List.foldl_cons]
    apply ih
    unfold lxP
    split
    ·exact List.mem_append_left _ hm
    ·exact hm
  have put : ∀ (L : List Int) (A : List Mm), (q : Int) ∈ L -> y = x -> (⟨y, q, a, d⟩ : Mm) ∈ L.foldl (lxP M x) A := by
   intro L
   induction L with
   | nil => intro A hm _; cases hm
   | cons p L ih =>
    intro A hm hyx
    rw [List.foldl_cons]
    rcases List.mem_cons.1 hm with hm | hm
    ·apply keep
     unfold lxP
     subst hyx
     rw [<- hm, Int.toNat_natCast, hM]
     simp
    ·exact ih _ hm hyx
  rw [lxA]
  by_cases hyx : y = x
  ·exact put _ _ (hyx ▸ hq) hyx
  ·exact keep _ _ _ (c74 M hq hM x (by omega))
theorem b0u {A : List Mm} (h : A.Pairwise fun m m' => lt2 (mk2 m) (mk2 m')) {i j : Nat} (hij : i < j) (hj : j < A.length) : lt2 (mk2 (A.getD i mm0)) (mk2 (A.getD j mm0)) := by
 rw [List.pairwise_iff_getElem] at h
 have := h i j (by omega) hj hij
 rw [List.getD_eq_getElem?_getD, List.getD_eq_getElem?_getD, List.getElem?_eq_getElem (by omega), List.getElem?_eq_getElem hj]
 exact this
theorem d3f {M : Mem} (hV : VS ns l M) : okL ns (a6w ns l) (lxA (rsN ns l) M ns.length) = true := by
 have h := c6r (ns := ns) (l := l) M ns.length
 generalize lxA (rsN ns l) M ns.length = A at *
 unfold okL
 rw [List.all_eq_true]
 intro i hi
 have hi := List.mem_range.1 hi
 have hv : ∀ j, j < A.length -> vlM ns (a6w ns l) (A.getD j mm0) = true /\ (0 <= (A.getD j mm0).node /\ 0 <= (A.getD j mm0).port) := fun j hj => by
  obtain ⟨x, p, h1, h2, h3⟩ := h.mem _ (a2s A j mm0 hj)
  have := (hV x p _ _ h3).1
  generalize A.getD j mm0 = m at *
  cases m with
  | mk a b c d =>
   simp only at h1 h2 this
   subst h1 h2
   exact ⟨this, by simp, by simp⟩
 unfold okM
 rw [(hv i hi).1, Bool.true_and]
 refine decide_eq_true ?_
 cases i with
 | zero =>
  have := (hv 0 hi).2
  simp only [a3r]; omega
 | succ j =>
  have := b0u h.srt (i := j) (j := j + 1) (by omega) hi
  unfold lt2 mk2 at this
  simp only [a3r] at this ⊢
  omega
theorem b8j {A : List Mm} (h : A.Pairwise fun m m' => lt2 (mk2 m) (mk2 m')) : ∀ (x i : Nat), i < x -> x <= A.length -> a15 (b24 A x) [(A.getD i mm0).node, (A.getD i mm0).port] = some (A.getD i mm0)
 | 0, i, hi, _ => by omega
 | x + 1, i, hi, hx => by
  rw [b24, b7s]
  by_cases e : i = x
  ·subst e; rw [if_pos rfl]
  ·have := b0u h (i := i) (j := x) (by omega) (by omega)
   rw [if_neg]
   ·exact b8j h x i (by omega) (by omega)
   ·intro q
    simp only [List.cons.injEq, and_true] at q
    unfold lt2 mk2 at this
    simp only at this
    omega
theorem c5m (hN : NOK ns l) {M : Mem} (hV : VS ns l M) : a2a (b0p (lxA (rsN ns l) M ns.length)) = M := by
 have h := c6r (ns := ns) (l := l) M ns.length
 funext y q
 rw [a9e]
 cases hM : M y q with
 | some v =>
  obtain ⟨a, d⟩ := v
  have h1 := a2x (hV y q a d hM).1
  obtain ⟨x, p, e, hx, hp⟩ := (fok hN).pk _ h1.1
  simp only [List.cons.injEq, and_true] at e
  obtain ⟨e1, e2⟩ := e
  have e1 : y = x := by omega
  subst e1 e2
  have hm := c74 (ns := ns) (l := l) M hp hM ns.length hx
  obtain ⟨i, hi, he⟩ := List.getElem_of_mem hm
  have hg : (lxA (rsN ns l) M ns.length).getD i mm0 = ⟨y, q, a, d⟩ := by
   rw [List.getD_eq_getElem?_getD, List.getElem?_eq_getElem hi, he]; rfl
  have := b8j h.srt _ i hi (Nat.le_refl _)
  rw [hg] at this
  rw [show a15 (b0p (lxA (rsN ns l) M ns.length)) [(y : Int), (q : Int)] = some ⟨y, q, a, d⟩ from this]
  rfl
 | none =>
  cases hm : a15 (b0p (lxA (rsN ns l) M ns.length)) [(y : Int), (q : Int)] with
  | none => rfl
  | some m =>
   exfalso
   obtain ⟨i, h1, h2, h3⟩ := b25 _ _ _ _ hm
   obtain ⟨x, p, g1, g2, g3⟩ := h.mem m (h2 ▸ a2s _ i mm0 h1)
   simp only [List.cons.injEq, and_true] at h3
   have e1 : x = y := by omega
   have e2 : p = q := by omega
   rw [e1, e2, hM] at g3; cases g3
theorem c15 (hN : NOK ns l) {M : Mem} (s : MS) (hS : SOK ns (a6w ns l) s) (hM : a2a s = M) : ∀ t, ∃ s', SOK ns (a6w ns l) s' /\ a2a s' = (a1v ns l).run M t
 | 0 => ⟨s, hS, hM⟩
 | t + 1 => by
  obtain ⟨s', h1, h2⟩ := c15 hN s hS hM t
  obtain ⟨h3, h4⟩ := b70 hN h1 (W := s'.ks) (fun k => Iff.rfl)
  exact ⟨_, h3, by rw [h4, h2]; rfl⟩
theorem b3w {n : Int} {rd : Int} {ms : List Mm} (h : enE n l ns rd ms = 0) : n = ns.length /\ (0 <= rd /\ rd <= 1073741824) /\ ckE n l ns = 0 /\ okL ns (a6w ns l) ms = true := by
 unfold enE at h
 by_cases h1 : ckE n l ns = 0
 ·rw [if_neg (by omega)] at h
  obtain ⟨_, h2, _⟩ := a5h h1
  by_cases h3 : rd < 0 \/ 1073741824 < rd
  ·rw [if_pos h3] at h; cases h
  ·rw [if_neg h3] at h
   subst h2
   split at h
   ·rename_i h4
    exact ⟨rfl, by omega, h1, h4⟩
   ·cases h
 ·rw [if_pos h1] at h; exact absurd h h1
end Go.Vx.L58

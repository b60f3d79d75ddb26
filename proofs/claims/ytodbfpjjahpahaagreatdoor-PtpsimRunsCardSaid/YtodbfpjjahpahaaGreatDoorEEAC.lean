/- Lemmas of a small executor for the model, and contracts of functions, used for the law that this claim proves. No condition. -/
import Derived.Test.YtodbfpjjahpahaaGreatDoorEW3
import Derived.Test.YtodbfpjjahpahaaGreatDoorEEAB
import Derived.Test.YtodbfpjjahpahaaGreatDoorEEPA
set_option linter.unusedSimpArgs false
set_option linter.unusedVariables false
set_option maxRecDepth 100000
namespace Go.Vx.L58
open Go Go.Proofs
def c0y (m : Int) (l : List Ed) (ns : List Nd) (rd : Int) (ms : List Mm) (t : Int) : Int := if enE m l ns rd ms ≠ 0 then enE m l ns rd ms else if t < 0 \/ 1000 < t \/ 1073741824 < rd + t then 3 else 0
set_option maxHeartbeats 4000000 in
theorem d3s (l : List Ed) (cap : Option Nat) (hl : l.length <= maxLen) (ns : List Nd) (cap' : Option Nat) (hn : ns.length <= maxLen) (hwn : ∀ x, wfD (owD (ns.getD x nd0))) (n : Int) (rd : Int) (ms : List Mm) (cap2 : Option Nat) (hm : ms.length <= maxLen) (hwm : ∀ m ∈ ms, wfD m.set) (t : Int) :
  (c0y n l ns rd ms t ≠ 0 -> Runs Tryz.prog 39 [aN n l cap ns cap', aBl rd ms cap2 2, .val (.int .i64 t)] [gB l, ndB ns, meB false ms] (Det (.tup [.agg [.val (.int .i64 0), .val (.slice none 0 0)], .val (.int .i64 (c0y n l ns rd ms t))]) [gB l, ndB ns, meB false ms])) /\
  (c0y n l ns rd ms t = 0 -> Runs Tryz.prog 39 [aN n l cap ns cap', aBl rd ms cap2 2, .val (.int .i64 t)] [gB l, ndB ns, meB false ms] (Det (.tup [aBl (rd + t) (lsX ns.length (prR ns.length l ns.length) ((a1v ns l).run (a2a (b0p ms)) t.toNat)) none 3, .val (.int .i64 0)]) [gB l, ndB ns, meB false ms, meB true (lsX ns.length (prR ns.length l ns.length) ((a1v ns l).run (a2a (b0p ms)) t.toNat))])) := by
 have hmx : maxLen = 9223372036854775807 := by decide
 obtain ⟨en1, en2⟩ := b8e n l cap hl ns cap' hn rd ms cap2 hm
 by_cases he : enE n l ns rd ms = 0
 rotate_left
 ·have e : c0y n l ns rd ms t = enE n l ns rd ms := by unfold c0y; rw [if_pos he]
  refine ⟨fun _ => ?_, fun h => absurd (e ▸ h) he⟩
  have en := en1 he
  rw [e]
  generalize enE n l ns rd ms = c at *
  refine Runs.mk a0k Tryz.call39 Tryz.func39 rfl Tryz.ntmps39 Tryz.results39 rfl ?_
  (repeat' (first
  | refine SP ?_
  | (apply a0a <;> intro hb <;> (try simp only [nS, nT, eq_self, reduceCtorEq] at hb) <;> (try (exfalso; omega)))
  | refine a0c ?_
  | refine CT [some 0, some 1, some 2] en ?_
  | exact RT [some 0, some 1, some 2]
  ))
 have en := en2 he
 obtain ⟨h1, h2, h3⟩ := b3w he
 subst h1
 by_cases ht : t < 0 \/ 1000 < t \/ 1073741824 < rd + t
 ·have e : c0y ns.length l ns rd ms t = 3 := by unfold c0y; rw [if_neg (by omega), if_pos ht]
  refine ⟨fun _ => ?_, fun h => by rw [e] at h; cases h⟩
  rw [e]
  have hwr : 0 <= t -> t <= 1000 -> IntKind.i64.wrap (rd + t) = rd + t := fun a b => a8c (by omega) (by omega)
  rcases ht with ht | ht | ht
  all_goals
   refine Runs.mk a0k Tryz.call39 Tryz.func39 rfl Tryz.ntmps39 Tryz.results39 rfl ?_
   (repeat' (first
  | refine SP ?_
  | (apply a0a <;> intro hb <;> (try simp only [nS, nT, eq_self, reduceCtorEq] at hb) <;> (try (exfalso; omega)))
  | refine a0c ?_
  | refine CT [some 0, some 1, some 2] en ?_
  | exact RT [some 0, some 1, some 2]
  ))
 have e : c0y ns.length l ns rd ms t = 0 := by unfold c0y; rw [if_neg (by omega), if_neg ht]
 refine ⟨fun h => absurd e h, fun _ => ?_⟩
 obtain ⟨_, hr1, hck, hoL⟩ := b3w he
 have hN : NOK ns l := ⟨hck, hwn⟩
 have hF := fok hN
 have hS0 := a79 hoL hwm
 obtain ⟨T, rfl⟩ : ∃ T : Nat, t = T := ⟨t.toNat, by omega⟩
 rw [Int.toNat_natCast]
 have hwr : IntKind.i64.wrap (rd + (T : Int)) = rd + T := a8c (by omega) (by omega)
 have hrl := a4a ns.length l ns.length
 generalize hM0 : a2a (b0p ms) = M0 at *
 generalize b0p ms = s0 at *
 refine Runs.mk a0k Tryz.call39 Tryz.func39 rfl Tryz.ntmps39 Tryz.results39 rfl ?_
 (repeat' (first
  | refine SP ?_
  | (apply a0a <;> intro hb <;> (try simp only [nS, nT, eq_self, reduceCtorEq] at hb) <;> (try (exfalso; omega)))
  | refine a0c ?_
  | refine CT [some 0, some 1, some 2] en ?_
  ))
 refine a0p (σ := Nat × MS) (fun x => x.1 <= T /\ SOK ns (a6w ns l) x.2 /\ a2a x.2 = (a1v ns l).run M0 x.1) (fun x => ⟨[(2, .val (.int .i64 T)), (4, .ptr 3 2 0 0), (6, .ptr 4 2 0 0), (8, .ptr 7 3 0 0), (9, .map 8), (36, .val (.int .i64 T)), (37, .val (.int .i64 x.1))], [gB l, ndB ns, meB false ms, .var [.val (.int .i64 rd), .sl 2 14 0 ms.length cap2], .var [.val (.int .i64 0), .val (.slice none 0 0)], .fam true 29 3 1 ns.length (b1e b3h 0 (rsN ns l)) none 0, peB (a6w ns l) (gpF l), .var [.sl 1 6 0 ns.length cap', .sl 5 1 0 ns.length none, .map 6], mB x.2]⟩) (fun x => T - x.1) ((0, s0)) ?_ ?_ ?_
 ·exact ⟨by simp, hS0, hM0⟩
 ·(apply a04 [some 0, some 1, some 2, some 4, some 5, some 6, some 7, some 9, some 8]; (focus (iterate 2 (all_goals (repeat' (first | exact a92 rfl rfl rfl | exact a0l a0y rfl (fun _ _ => rfl) | exact a0l a1b rfl (fun _ _ => rfl) | exact a02 rfl | exact a0g | exact trivial | refine SP ?_ | refine And.intro ?_ ?_ | refine a0d ?_ ?_ | refine a09 ?_ | exact a0z rfl rfl | exact a0r rfl rfl rfl | exact a0b _ _ | exact a0j rfl rfl rfl ))))); any_goals (apply a0e; rfl))
 rintro ⟨k, s⟩ ⟨hk, hS, hMs⟩
 simp only at hk hS hMs ⊢
 by_cases hkT : k < T
 ·have hro := c5r ns cap' (rsN ns l) (a6w ns l) (gpF l) hF s hS
  unfold aF at hro
  rw [hrl] at hro
  (repeat' (first
  | refine SP ?_
  | (apply a0a <;> intro hb <;> (try simp only [nS, nT, eq_self, reduceCtorEq] at hb) <;> (try (exfalso; omega)))
  | refine a0c ?_
  ))
  apply d1d [some 1, some 5, some 6, some 8] hro
  ·iterate 2 (all_goals (repeat' (first | exact a00 rfl rfl rfl | exact a0l a0y rfl (fun _ _ => rfl) | exact a0l a1b rfl (fun _ _ => rfl) | exact a02 rfl | exact a0g | exact trivial | refine SP ?_ | refine And.intro ?_ ?_ | refine a0d ?_ ?_ | refine a1i ?_ | exact a0r rfl rfl rfl | exact a0j rfl rfl rfl )))
  ·apply a1j; rfl
  intro W hW
  obtain ⟨hS', hM'⟩ := b70 hN hS hW.2
  rw [hMs] at hM'
  (repeat' (first
  | refine SP ?_
  | (apply a0i (Subtype.mk ((k + 1, sdA ns (rsN ns l) (gpF l) s (agS s W) ns.length)) ⟨by show k + 1 <= T; omega, hS', hM'⟩); (focus (skip; apply a04 [some 0, some 1, some 2, some 3, some 4, some 5, some 6, some 7, some _]; (focus (iterate 2 (all_goals (repeat' (first | exact a00 rfl rfl rfl | exact a0l a0y rfl (fun _ _ => rfl) | exact a0l a1b rfl (fun _ _ => rfl) | exact a02 rfl | exact a0g | exact trivial | refine SP ?_ | refine And.intro ?_ ?_ | refine a0d ?_ ?_ | refine a09 ?_ | exact a0z rfl rfl | exact a0r rfl rfl rfl | exact a0b _ _ | exact a0j rfl rfl rfl | ((refine a0f ?_); first | with_reducible rfl | omega | ((try simp only [wS]); omega) | rfl) ))))); any_goals (apply a0e; rfl))); (all_goals (try (first | (simp only; omega)))))
  ))
 ·obtain rfl : k = T := by omega
  have hli := d07 ns cap' (rsN ns l) (a6w ns l) (gpF l) (by rw [hrl]; exact hF.n24) (fun x hx => hF.row x (by rw [hrl] at hx; exact hx)) s
  unfold aF at hli
  rw [hrl, c8d hS, hMs] at hli
  (repeat' (first
  | refine SP ?_
  | (apply a0a <;> intro hb <;> (try simp only [nS, nT, eq_self, reduceCtorEq] at hb) <;> (try (exfalso; omega)))
  | refine a0q (by decide +kernel) ?_
  | ((first | apply a0m [some 1, some 5, some 6, some 8] (hli)); (focus ((iterate 2 (all_goals (repeat' (first | exact a00 rfl rfl rfl | exact a0l a0y rfl (fun _ _ => rfl) | exact a0l a1b rfl (fun _ _ => rfl) | exact a02 rfl | exact a0g | exact trivial | refine SP ?_ | refine And.intro ?_ ?_ | refine a0d ?_ ?_ | refine a1i ?_ | exact a0r rfl rfl rfl | exact a0j rfl rfl rfl )))))); (any_goals (first | (apply a0s; rfl) )))
  | (apply a0v [some 0, some 1, some 2, some _]; exact AS; any_goals (apply a0e; rfl))
  ))
end Go.Vx.L58
set_option maxRecDepth 100000
namespace Go.Vx.L58
open Go Go.Proofs
structure Ch where
 m : Int
 s : Int
 deriving DecidableEq, Inhabited
def chC (c : Ch) : List AV := [.val (.int .i64 c.m), .val (.int .i64 c.s)]
instance : FlatC chC := ⟨fun x v h => by simp [chC] at h; rcases h with rfl | rfl <;> trivial⟩
set_option maxHeartbeats 4000000 in
theorem c53 (n : Int) (l : List Ed) (cap : Option Nat) (hl : l.length <= maxLen) (ns : List Nd) (cap' : Option Nat) (hn : ns.length <= maxLen) (hwn : ∀ x, wfD (owD (ns.getD x nd0))) (rd : Int) (ms : List Mm) (cap2 : Option Nat) (hm : ms.length <= maxLen) (hwm : ∀ m ∈ ms, wfD m.set) (he : enE n l ns rd ms = 0) (x : Nat) (hxl : x < ns.length) :
  Runs Tryz.prog 41 [aN n l cap ns cap', aBl rd ms cap2 2, .val (.int .i64 x)] [gB l, ndB ns, meB false ms] (Det (.tup [.sl 3 1 0 8 none, .val (.int .i64 0)]) [gB l, ndB ns, meB false ms, iB true (a7s (owD (ns.getD x nd0)) (hrX (b0p ms) x 8))]) := by
 have hmx : maxLen = 9223372036854775807 := by decide
 have en := (b8e n l cap hl ns cap' hn rd ms cap2 hm).2 he
 obtain ⟨rfl, hr1, hck, hoL⟩ := b3w he
 have hN : NOK ns l := ⟨hck, hwn⟩
 have hF := fok hN
 have hn24 := hF.n24
 have hS := a79 hoL hwm
 have hrl := a4a ns.length l ns.length
 generalize b0p ms = s at *
 have hown := c8f ns cap' (rsN ns l) (a6w ns l) (gpF l) x hxl
 unfold aF fB at hown
 rw [hrl] at hown
 have hhe := b81 s x
 have hHl := a8f s x 8
 have hde := b0i (owD (ns.getD x nd0)) (hrX s x 8) none (by omega) (b7w hS x 8) (hF.wf x) (hF.cl x hxl)
 have hcl : (a7s (owD (ns.getD x nd0)) (hrX s x 8)).length = 8 := by rw [a2p]; exact hHl
 generalize a7s (owD (ns.getD x nd0)) (hrX s x 8) = C at *
 generalize owD (ns.getD x nd0) = o at *
 generalize hrX s x 8 = H at *
 refine Runs.mk a0k Tryz.call41 Tryz.func41 rfl Tryz.ntmps41 Tryz.results41 rfl ?_
 (repeat' (first
  | refine SP ?_
  | (apply a0a <;> intro hb <;> (try simp only [nS, nT, eq_self, reduceCtorEq] at hb) <;> (try (exfalso; omega)))
  | refine a0c ?_
  | refine CT [some 0, some 1, some 2] en ?_
  | ((first | apply a1a [some 1, some 5, some 6] (hown) ); (focus ((iterate 2 (all_goals (repeat' (first | exact a92 rfl rfl rfl | exact a0l a0y rfl (fun _ _ => rfl) | exact a02 rfl | exact a0g | exact trivial | refine SP ?_ | refine And.intro ?_ ?_ | refine a0d ?_ ?_ | refine a1i ?_ | exact a0r rfl rfl rfl | exact a0b _ _ | exact a0j rfl rfl rfl )))))); any_goals (apply a1j; rfl))
  | ((first | apply a1z (hhe) ); (focus (iterate 2 (all_goals (repeat' (first | exact a0l a1b rfl (fun _ _ => rfl) | exact a02 rfl | exact a0g | exact trivial | refine SP ?_ | refine And.intro ?_ ?_ | refine a0d ?_ ?_ | exact a0b _ _ ))))); (try (any_goals fail)))
  | ((first | apply a1z (hde) ); exact AS; (try (any_goals fail)))
  | (apply a0v [some 0, some 1, some 2, some _]; exact AS; any_goals (apply a0e; rfl))
  ))
end Go.Vx.L58
set_option maxRecDepth 100000
namespace Go.Vx.L58
open Go Go.Proofs
def dsN (ns : List Nd) (l : List Ed) (x j : Nat) : Int := (dsA ns.length l x).getD j 0
def exC (ns : List Nd) (l : List Ed) (x i : Nat) : Nat × Int := b4x (fun y => owD (ns.getD y nd0)) (dsN ns l x) x i
def exL (ns : List Nd) (l : List Ed) : Nat -> List Ch
 | 0 => []
 | x + 1 => exL ns l x ++ [⟨((exC ns l x ns.length).1 : Int), (exC ns l x ns.length).2⟩]
theorem c7e (n : Int) (l : List Ed) (cap : Option Nat) (ns : List Nd) (cap' : Option Nat) :
  Runs Tryz.prog 40 [aN n l cap ns cap'] [gB l, ndB ns] (Det (.agg [.val (.int .i64 0), .val (.slice none 0 0)]) [gB l, ndB ns]) := by
 refine Runs.mk a0k Tryz.call40 Tryz.func40 rfl Tryz.ntmps40 Tryz.results40 rfl ?_
 (repeat' (first
  | refine SP ?_
  | exact RT [some 0, some 1]
  ))
end Go.Vx.L58
set_option maxRecDepth 100000
namespace Go.Vx.L58
open Go Go.Proofs
variable {ns : List Nd} {l : List Ed}
theorem a7r (hN : NOK ns l) {i : Nat} (hi : i < ns.length) : IsD ns.length l i (dsA ns.length l i) := by
 obtain ⟨hc, hn, hq⟩ := hN.parts
 obtain ⟨m', hmm, hmb, hl64, hed⟩ := a4d hc
 obtain rfl : ns.length = m' := by omega
 unfold dsA
 rw [if_pos (c47 hc (by omega) (by omega)), Int.toNat_natCast, Int.toNat_natCast]
 exact (d2n hed hmb.2 hi).1
theorem b9m (hN : NOK ns l) {e : Ed} (he : e ∈ l) {x : Nat} {y : Nat} (h : d0s e x (y : Int)) : ∃ p q, (a1v ns l).pe x p = some (y, q) := by
 obtain ⟨hc, hn, hq⟩ := hN.parts
 obtain ⟨_, _, h3⟩ := a6m hc
 obtain ⟨p1, p2⟩ := a42 l (a45 hc) e he
 have hr := h3 e he
 simp only [a6r, decide_eq_true_eq] at hr
 rcases h with ⟨h1, h2⟩ | ⟨h1, h2⟩
 ·refine ⟨e.pa.toNat, e.pb.toNat, ?_⟩
  have hx : (x : Int) < ns.length := by omega
  have hp : ((e.pa.toNat : Nat) : Int) = e.pa := by omega
  simp only [a1v]
  rw [hp, <- h1, a3a hc (by omega) (by omega), p1, if_pos rfl, <- h2, Int.toNat_natCast]
 ·refine ⟨e.pb.toNat, e.pa.toNat, ?_⟩
  have hp : ((e.pb.toNat : Nat) : Int) = e.pb := by omega
  simp only [a1v]
  rw [hp, <- h1, a3a hc (by omega) (by omega), p2, if_pos rfl, <- h2, Int.toNat_natCast]
theorem c2d (hN : NOK ns l) {x p y q : Nat} (h : (a1v ns l).pe x p = some (y, q)) : Adj l x (y : Int) := by
 obtain ⟨hc, hn, hq⟩ := hN.parts
 obtain ⟨⟨hx, hy⟩, _⟩ := (b2z hN).pe_ok x p y q h
 have hx : x < ns.length := hx
 simp only [a1v] at h
 split at h
 ·rename_i hk
  simp only [Option.some.injEq, Prod.mk.injEq] at h
  obtain ⟨y', q', h4, h5, _⟩ := a5g hc hx hk
  rw [h4] at h
  simp only [Int.toNat_natCast] at h
  obtain ⟨rfl, _⟩ := h
  rw [a3a hc (by omega) (by omega)] at h4 hk
  obtain ⟨e, he, ⟨h1, h2⟩ | ⟨h1, h2⟩⟩ := (a7q _ _ l).1 hk
  ·obtain ⟨p1, _⟩ := a42 l (a45 hc) e he
   rw [<- h1, <- h2, p1] at h4
   exact ⟨e, he, .inl ⟨h1, (Prod.mk.inj h4).1.symm⟩⟩
  ·obtain ⟨_, p2⟩ := a42 l (a45 hc) e he
   rw [<- h1, <- h2, p2] at h4
   exact ⟨e, he, .inr ⟨h1, (Prod.mk.inj h4).1.symm⟩⟩
 ·cases h
theorem b52 (hN : NOK ns l) {i j : Nat} (hi : i < ns.length) (hj : j < ns.length) : ∀ (k x : Nat), x < ns.length -> dsN ns l j x = k -> 0 <= dsN ns l i x -> 0 <= dsN ns l i j
 | k, x, hx, hk, h0 => by
  have hDi := a7r hN hi
  have hDj := a7r hN hj
  rcases hDj.back x hx (by show 0 <= dsN ns l j x; omega) with rfl | ⟨y, hy, hA, h1, h2⟩
  ·exact h0
  ·match k with
   | 0 => exact absurd hk (by show ¬ (dsA ns.length l j).getD x 0 = _; omega)
   | k + 1 =>
    have h3 := hDi.edge x hx y hy hA h0
    have hk : (dsA ns.length l j).getD x 0 = ((k + 1 : Nat) : Int) := hk
    exact b52 hN hi hj k y hy (by show (dsA ns.length l j).getD y 0 = _; omega) h3.1
theorem c2t (hN : NOK ns l) : (a1v ns l).Dst (dsN ns l) where
 low := fun i y hi hy => (a7r hN hi).low y hy
 zero := fun i hi => (a7r hN hi).zero
 zeq := fun i y hi hy h => by
  have h : (dsA ns.length l i).getD y 0 = 0 := h
  rcases (a7r hN hi).back y hy (by omega) with h1 | ⟨z, _, _, h2, h3⟩
  ·exact h1
  ·omega
 edge := fun i x p y q hi hp h0 => by
  obtain ⟨⟨hx, hy⟩, _⟩ := (b2z hN).pe_ok x p y q hp
  exact (a7r hN hi).edge x hx y hy (c2d hN hp) h0
 back := fun i x hi hx h0 => by
  have h0 : 0 < (dsA ns.length l i).getD x 0 := h0
  rcases (a7r hN hi).back x hx (by omega) with rfl | ⟨y, hy, ⟨e, he, hA⟩, h1, _⟩
  ·have := (a7r hN hi).zero; omega
  ·obtain ⟨p, q, hp⟩ := b9m hN he hA
   exact ⟨p, y, q, hp, h1⟩
 comp := fun i j x hi hj hx h1 h2 => by
  obtain ⟨k, hk⟩ := Int.eq_ofNat_of_zero_le h2
  exact b52 hN hi hj k x hx hk h1
theorem c6x (hN : NOK ns l) : ∀ i j, i < ns.length -> j < ns.length -> dsN ns l i j = dsN ns l j i := fun i j hi hj =>
 c7p (D := fun a => dsA ns.length l a) (fun a ha => a7r hN ha) i j hi hj
end Go.Vx.L58

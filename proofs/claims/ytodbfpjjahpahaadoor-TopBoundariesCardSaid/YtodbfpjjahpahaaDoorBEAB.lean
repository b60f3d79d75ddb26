/- Lemmas of a small executor for the model, and contracts of functions, used for the law that this claim proves. No condition. -/
import Derived.Test.YtodbfpjjahpahaaDoorBEA7
set_option linter.unusedSimpArgs false
set_option linter.unusedVariables false
set_option maxRecDepth 100000
namespace Go.Vx.L42
open Go Go.Proofs
def prR (n : Int) (l : List Ed) : Nat -> List (List Int)
 | 0 => []
 | x + 1 => prR n l x ++ [rpL n l x 8]
theorem a8s (n : Int) (l : List Ed) : ∀ x, (prR n l x).length = x
 | 0 => rfl
 | x + 1 => by rw [prR, List.length_append, a8s n l x]; rfl
theorem a9y (n : Int) (l : List Ed) : ∀ x y, y < x -> (prR n l x).getD y [] = rpL n l y 8
 | 0, y, h => by omega
 | x + 1, y, h => by
  rw [prR, List.getD_eq_getElem?_getD]
  have hl := a8s n l x
  by_cases hy : y < x
  ·rw [List.getElem?_append_left (by omega), <- List.getD_eq_getElem?_getD, a9y n l x y hy]
  ·have : y = x := by omega
   subst this
   rw [List.getElem?_append_right (by omega), hl, Nat.sub_self]; rfl
def gpF (l : List Ed) (k : List Int) : Int × Int := ((a4a l (k.getD 0 0) (k.getD 1 0)).1, (a4a l (k.getD 0 0) (k.getD 1 0)).2.1)
def pkN (x : Nat) (L : List Int) (ks : List (List Int)) : List (List Int) := L.foldl (fun ks p => addKey ks [(x : Int), p]) ks
def pkA (n : Int) (l : List Ed) : Nat -> List (List Int)
 | 0 => []
 | x + 1 => pkN x (rpL n l x 8) (pkA n l x)
theorem b5w (n : Int) (l : List Ed) (a : Int) : (rpL n l a 8).length <= 8 := by
 unfold rpL
 exact Nat.le_trans (List.length_filter_le _ _) (by decide)
theorem c7u {ρ : Nat -> Option Nat} {l : List Ed} {a p : Int} {ks : List (List Int)} {v : AV} (hv : sub ρ (plA (gpF l [a, p])) v) : a3n ρ (peB (addKey ks [a, p]) (gpF l)) (.map (some 2) (addKey ks [a, p]) (b1x (fun k => plA (gpF l k)) [a, p] v)) :=
 c16 a2h rfl hv fun _ _ _ => rfl
set_option maxHeartbeats 4000000 in
theorem b8k (m : Nat) (l : List Ed) (cap : Option Nat) (hl : l.length <= maxLen) (ns : List Nd) (cap' : Option Nat) (hm : ns.length = m) (hc : ckC m l = 0) :
  Runs Tryd.prog 22 [aN m l cap ns cap'] [gB l, ndB ns] (Det (.agg [.sl 1 6 0 ns.length cap', .sl 2 1 0 ns.length none, .map 3]) [gB l, ndB ns, .fam true 58 3 1 ns.length (a3i a78 0 (prR m l ns.length)) none 0, peB (pkA m l ns.length) (gpF l)]) := by
 have hmx : maxLen = 9223372036854775807 := by decide
 obtain ⟨m', hmm, hmb, hl64, hed⟩ := a6g hc
 obtain rfl : m = m' := by omega
 refine Runs.mk a1a Tryd.call22 Tryd.func22 rfl Tryd.ntmps22 Tryd.results22 rfl ?_
 (repeat' (first
  | refine SP ?_
  | refine a0l ?_
  ))
 refine a00 (σ := Nat) (fun x => x <= ns.length) (fun x => ⟨[(1, .ptr 2 3 0 0), (2, .ptr 3 3 0 0), (3, .ptr 4 3 0 0), (17, .val (.int .i64 ns.length)), (18, .val (.int .i64 x))], [gB l, ndB ns, .var [.val (.int .i64 m), .sl 0 4 0 l.length cap, .sl 1 6 0 ns.length cap'], .var [.dead, .dead, .dead], .var [.sl 1 6 0 ns.length cap', .sl 5 1 0 x none, .map 6], .fam true 58 3 1 x (a3i a78 0 (prR m l x)) none 0, peB (pkA m l x) (gpF l)]⟩) (fun x => ns.length - x) (0) ?_ ?_ ?_
 ·omega
 ·(apply a0t [some 0, some 1, some 2, some 3, some 5, none, some 4]; (focus (iterate 2 (all_goals (repeat' (first | exact a0q | exact a0x rfl | refine map_mk ?_ ?_ | exact a0c | exact trivial | refine SP ?_ | refine And.intro ?_ ?_ | refine a0b ?_ ?_ | refine a0n ?_ | exact a0d rfl rfl | exact a0i rfl rfl rfl | exact a0a _ _ | exact a0f rfl rfl rfl | exact a3a rfl | ((first | show (_ : Nat) = _); first | with_reducible rfl | omega | ((try simp only [wS]); omega) | rfl) | with_reducible rfl ))))); any_goals (apply a0h; rfl))
  ·rfl
  ·intro x hx; cases hx
 rintro z hz
 by_cases hzl : z < ns.length
 ·have hhz : hasB m l z = true := decide_eq_true ⟨hc, by omega, by omega⟩
  have hpo := c2d m l cap hl z hhz
  have hS : prR m l (z + 1) = prR m l z ++ [rpL m l z 8] := rfl
  have hP : pkA m l (z + 1) = pkN z (rpL m l z 8) (pkA m l z) := rfl
  have hL := a8s m l z
  generalize hpk1 : pkA m l (z + 1) = K1 at *
  generalize hW : rpL m l z 8 = W at *
  generalize prR m l z = R at *
  generalize pkA m l z = K at *
  have hpe : ∀ p ∈ W, a1r m l z p = ((gpF l [(z : Int), p]).1, (gpF l [(z : Int), p]).2, true) := fun p hp => by
   rw [<- hW] at hp
   have h2 : (a1r m l z p).2.2 = true := ((b5e ..).1 hp).2
   have h3 : a1r m l z p = a4a l z p := by unfold a1r; rw [if_pos hhz]
   rw [h3] at h2 ⊢
   show a4a l z p = ((a4a l z p).1, (a4a l z p).2.1, true)
   rw [<- h2]
  have hpr := fun p => a7d m l cap hl z p
  have hS' : prR m l (z + 1) = R ++ [W] := hS
  clear hS
  have hRz : (R ++ [W]).getD z [] = W := by rw [List.getD_eq_getElem?_getD, List.getElem?_append_right (by omega), hL, Nat.sub_self]; rfl
  rcases W with _ | ⟨w0, W⟩
  ·have hP' : K1 = K := hP
   rw [List.length_nil] at hpo
   (repeat' (first
  | refine SP ?_
  | refine a05 (by decide) ?_
  | (apply a0g <;> intro hb <;> (try simp only [nS, nT, eq_self, reduceCtorEq] at hb) <;> (try (exfalso; omega)))
  | refine a0l ?_
  | refine OB ?_
  | ((first | apply a1y (hpo) ); (focus (iterate 2 (all_goals (repeat' (first | exact a0c | exact trivial | refine SP ?_ | refine And.intro ?_ ?_ | refine a0b ?_ ?_ | refine a0o ?_ | exact a0i rfl rfl rfl | exact a0a _ _ | exact a0f rfl rfl rfl ))))); (try (any_goals fail)))
  | (refine a2m 1 ?_)
  | (apply a0m (Subtype.mk (z + 1) (by first | omega | (simp only; omega))); (focus (rw [hpk1, hP', hS']; apply a0t [some 0, some 1, some 2, some 3, some 4, some 9, some 6]; (focus (iterate 2 (all_goals (repeat' (first | exact a0q | exact a18 a2h rfl (fun _ _ => rfl) | exact a0x rfl | exact a0c | exact trivial | refine SP ?_ | refine And.intro ?_ ?_ | refine a0b ?_ ?_ | refine a0n ?_ | exact a0d rfl rfl | exact a0i rfl rfl rfl | exact a0a _ _ | exact a0f rfl rfl rfl | ((refine a0r ?_); first | with_reducible rfl | omega | ((try simp only [wS]); omega) | rfl) ))))); any_goals (apply a0h; rfl))); (all_goals (try (first | (simp only; omega)))))
  ))
   all_goals first
    | exact a1e (l := []) (a06 rfl rfl rfl) rfl rfl hL.symm rfl rfl
    | fail
  ·generalize hWW : (w0 :: W) = WW at *
   have hWl : WW.length = W.length + 1 := by rw [<- hWW]; rfl
   have hPf : K1 = WW.foldl (fun ks p => addKey ks [(z : Int), p]) K := hP
   rw [hWl] at hpo
   generalize hRR : R ++ [WW] = RR at *
   have hmx8 : WW.length <= 8 := by
    rw [<- hW]; exact b5w _ _ _
   (repeat' (first
  | refine SP ?_
  | (apply a0g <;> intro hb <;> (try simp only [nS, nT, eq_self, reduceCtorEq] at hb) <;> (try (exfalso; omega)))
  | refine a0l ?_
  | refine OB ?_
  | ((first | apply a1y (hpo) ); (focus (iterate 2 (all_goals (repeat' (first | exact a0c | exact trivial | refine SP ?_ | refine And.intro ?_ ?_ | refine a0b ?_ ?_ | refine a0o ?_ | exact a0i rfl rfl rfl | exact a0a _ _ | exact a0f rfl rfl rfl ))))); (try (any_goals fail)))
  ))
   refine a00 (σ := Nat) (fun x => x <= WW.length) (fun x => ⟨[(1, .ptr 2 3 0 0), (2, .ptr 3 3 0 0), (3, .ptr 4 3 0 0), (4, .val (.int .i64 z)), (17, .val (.int .i64 ns.length)), (18, .val (.int .i64 z)), (31, .sl 7 1 0 WW.length none), (32, .val (.int .i64 WW.length)), (33, .val (.int .i64 x))], [gB l, ndB ns, .var [.val (.int .i64 m), .sl 0 4 0 l.length cap, .sl 1 6 0 ns.length cap'], .var [.dead, .dead, .dead], .var [.sl 1 6 0 ns.length cap', .sl 5 1 0 (z + 1) none, .map 6], .fam true 58 3 1 (z + 1) (a3i a78 0 RR) none 0, peB ((WW.take x).foldl (fun ks p => addKey ks [(z : Int), p]) K) (gpF l), .row 5 z]⟩) (fun x => WW.length - x) (0) ?_ ?_ ?_
   ·omega
   ·(apply a0t [some 0, some 1, some 2, some 3, some 4, some 9, some 6, some 7]; (focus (iterate 2 (all_goals (repeat' (first | exact a0q | exact a1u rfl rfl | exact a18 a2h rfl (fun _ _ => rfl) | exact a0x rfl | exact a0c | exact trivial | refine SP ?_ | refine And.intro ?_ ?_ | refine a0b ?_ ?_ | refine a0n ?_ | exact a0d rfl rfl | exact a0i rfl rfl rfl | exact a0a _ _ | exact a0f rfl rfl rfl | ((first | refine a0r ?_ | refine a0i rfl rfl ?_ ); first | with_reducible rfl | omega | ((try simp only [wS]); omega) | rfl) ))))); any_goals (apply a0h; rfl))
    all_goals first
     | (rw [<- hRR]; refine a1e (l := WW) (a06 rfl ?_ rfl) ?_ rfl hL.symm rfl rfl <;> omega)
     | fail
   rintro j hj
   by_cases hjW : j < WW.length
   ·have hzj : 0 + Int.toNat (j : Int) = j := by omega
    have hS2 := a8c (fun ks p => addKey ks [(z : Int), p]) K WW j 0 hjW
    have hpe' := hpe _ (a6r WW j 0 hjW)
    have hpp := hpr (WW.getD j 0)
    rw [hpe'] at hpp
    have hPe : (RR.getD z []).getD (0 + Int.toNat (j : Int)) 0 = WW.getD j 0 := by rw [hRz, hzj]
    have hR2 : (a3i a78 0 RR z).1 = WW.length := by rw [a1z, hRz]
    rw [<- hPe] at hS2 hpp
    generalize hq' : (WW.take (j + 1)).foldl (fun ks p => addKey ks [(z : Int), p]) K = q' at *
    generalize (WW.take j).foldl (fun ks p => addKey ks [(z : Int), p]) K = q at *
    (repeat' (first
  | refine SP ?_
  | (with_reducible refine a4m ?_)
  | (apply a0g <;> intro hb <;> (try simp only [nS, nT, eq_self, reduceCtorEq] at hb) <;> (try (exfalso; omega)))
  | refine a0l ?_
  | refine OB ?_
  | ((first | apply a1y (hpp) ); (focus (iterate 2 (all_goals (repeat' (first | exact a0c | exact trivial | refine SP ?_ | refine And.intro ?_ ?_ | refine a0b ?_ ?_ | refine a0o ?_ | exact a0i rfl rfl rfl | exact a0a _ _ | exact a0f rfl rfl rfl ))))); (try (any_goals fail)))
  | (apply a0m (Subtype.mk (j + 1) (by first | omega | (simp only; omega))); (focus (rw [hq', hS2]; apply a0t [some 0, some 1, some 2, some 3, some 4, some 5, some 6, some 7]; (focus (iterate 2 (all_goals (repeat' (first | exact a0q | exact a0z rfl rfl rfl | exact a1u rfl rfl | refine c7u ?_ | exact a0x rfl | exact a0c | exact trivial | refine SP ?_ | refine And.intro ?_ ?_ | refine a0b ?_ ?_ | refine a0o ?_ | refine a0n ?_ | exact a0d rfl rfl | exact a0i rfl rfl rfl | exact a0a _ _ | exact a0f rfl rfl rfl | ((refine a0r ?_); first | with_reducible rfl | omega | ((try simp only [wS]); omega) | rfl) ))))); any_goals (apply a0h; rfl))); (all_goals (try (first | (simp only; omega)))))
  ))
   ·obtain rfl : j = WW.length := by omega
    rw [List.take_length, <- hPf]
    (repeat' (first
  | refine SP ?_
  | (apply a0g <;> intro hb <;> (try simp only [nS, nT, eq_self, reduceCtorEq] at hb) <;> (try (exfalso; omega)))
  | (apply a0m (Subtype.mk (z + 1) (by first | omega | (simp only; omega))); (focus (rw [hpk1, hS']; apply a0t [some 0, some 1, some 2, some 3, some 4, some 5, some 6]; (focus (iterate 2 (all_goals (repeat' (first | exact a0q | exact a0z rfl rfl rfl | exact a18 a2h rfl (fun _ _ => rfl) | exact a0x rfl | exact a0c | exact trivial | refine SP ?_ | refine And.intro ?_ ?_ | refine a0b ?_ ?_ | refine a0n ?_ | exact a0d rfl rfl | exact a0i rfl rfl rfl | exact a0a _ _ | exact a0f rfl rfl rfl | ((refine a0r ?_); first | with_reducible rfl | omega | ((try simp only [wS]); omega) | rfl) ))))); any_goals (apply a0h; rfl))); (all_goals (try (first | (simp only; omega)))))
  ))
 ·obtain rfl : z = ns.length := by omega
  (repeat' (first
  | refine SP ?_
  | (apply a0g <;> intro hb <;> (try simp only [nS, nT, eq_self, reduceCtorEq] at hb) <;> (try (exfalso; omega)))
  | (apply a04 [some 0, some 1, some 5, some 6]; (focus (iterate 2 (all_goals (repeat' (first | exact a0z rfl rfl rfl | exact a18 a2h rfl (fun _ _ => rfl) | exact a0x rfl | exact a0c | exact trivial | refine SP ?_ | refine And.intro ?_ ?_ | refine a0b ?_ ?_ | refine a0o ?_ | exact a0i rfl rfl rfl | exact a0f rfl rfl rfl ))))); any_goals (apply a0h; rfl))
  ))
end Go.Vx.L42
set_option maxRecDepth 100000
namespace Go.Vx.L42
open Go Go.Proofs
theorem b78 (ks : List (List Int)) (n k : List Int) : k ∈ addKey ks n ↔ k ∈ ks \/ k = n := by
 unfold addKey
 cases h : ks.contains n with
 | true =>
  rw [cond_true]
  exact ⟨.inl, fun e => e.elim id fun e => e ▸ List.contains_iff_mem.1 h⟩
 | false => rw [cond_false]; simp
theorem c06 (x : Nat) : ∀ (L : List Int) (ks : List (List Int)) (k : List Int), k ∈ pkN x L ks ↔ k ∈ ks \/ ∃ p ∈ L, k = [(x : Int), p]
 | [], ks, k => by simp [pkN]
 | p :: L, ks, k => by
  have ih := c06 x L (addKey ks [(x : Int), p]) k
  unfold pkN at ih ⊢
  rw [List.foldl_cons, ih, b78]
  simp [or_assoc]
theorem b5n (n : Int) (l : List Ed) : ∀ (x : Nat) (k : List Int), k ∈ pkA n l x ↔ ∃ z, z < x /\ ∃ p ∈ rpL n l z 8, k = [(z : Int), p]
 | 0, k => by simp [pkA]
 | x + 1, k => by
  rw [pkA, c06, b5n n l x]
  constructor
  ·rintro (⟨z, hz, p, hp, e⟩ | ⟨p, hp, e⟩)
   ·exact ⟨z, by omega, p, hp, e⟩
   ·exact ⟨x, by omega, p, hp, e⟩
  ·rintro ⟨z, hz, p, hp, e⟩
   by_cases h : z = x
   ·subst h; exact .inr ⟨p, hp, e⟩
   ·exact .inl ⟨z, by omega, p, hp, e⟩
def meC (m : Mm) : List AV := .val (.int .i64 m.node) :: .val (.int .i64 m.port) :: .val (.int .i64 m.age) :: dC m.set
instance : FlatC meC := ⟨fun x v h => by simp [meC, dC] at h; rcases h with rfl | rfl | rfl | rfl | rfl | rfl | rfl | rfl | rfl | rfl | rfl | rfl | rfl | rfl <;> trivial⟩
theorem b17 {n : Int} {l : List Ed} {ns : List Nd} (h : ckE n l ns = 0) : ckC n l = 0 /\ (ns.length : Int) = n /\ c1z ns ns.length 0 = 0 := by
 unfold ckE at h
 by_cases h1 : ckC n l = 0
 ·rw [if_neg (by omega)] at h
  by_cases h2 : (ns.length : Int) = n
  ·rw [if_neg (by omega)] at h; exact ⟨h1, h2, h⟩
  ·rw [if_pos h2] at h; cases h
 ·rw [if_pos h1] at h; exact absurd h h1
end Go.Vx.L42
set_option maxRecDepth 100000
namespace Go.Vx.L42
open Go Go.Proofs
end Go.Vx.L42

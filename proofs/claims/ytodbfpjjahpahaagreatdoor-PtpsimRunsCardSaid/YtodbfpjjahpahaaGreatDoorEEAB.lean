/- Lemmas of a small executor for the model, and contracts of functions, used for the law that this claim proves. No condition. -/
import Derived.Test.YtodbfpjjahpahaaGreatDoorEW3
import Derived.Test.YtodbfpjjahpahaaGreatDoorEEA7
set_option linter.unusedSimpArgs false
set_option linter.unusedVariables false
set_option maxRecDepth 100000
namespace Go.Vx.L58
open Go Go.Proofs
def prR (n : Int) (l : List Ed) : Nat -> List (List Int)
 | 0 => []
 | x + 1 => prR n l x ++ [rpL n l x 8]
theorem a4a (n : Int) (l : List Ed) : ∀ x, (prR n l x).length = x
 | 0 => rfl
 | x + 1 => by rw [prR, List.length_append, a4a n l x]; rfl
theorem a5m (n : Int) (l : List Ed) : ∀ x y, y < x -> (prR n l x).getD y [] = rpL n l y 8
 | 0, y, h => by omega
 | x + 1, y, h => by
  rw [prR, List.getD_eq_getElem?_getD]
  have hl := a4a n l x
  by_cases hy : y < x
  ·rw [List.getElem?_append_left (by omega), <- List.getD_eq_getElem?_getD, a5m n l x y hy]
  ·have : y = x := by omega
   subst this
   rw [List.getElem?_append_right (by omega), hl, Nat.sub_self]; rfl
def gpF (l : List Ed) (k : List Int) : Int × Int := ((a2d l (k.getD 0 0) (k.getD 1 0)).1, (a2d l (k.getD 0 0) (k.getD 1 0)).2.1)
def pkN (x : Nat) (L : List Int) (ks : List (List Int)) : List (List Int) := L.foldl (fun ks p => addKey ks [(x : Int), p]) ks
def pkA (n : Int) (l : List Ed) : Nat -> List (List Int)
 | 0 => []
 | x + 1 => pkN x (rpL n l x 8) (pkA n l x)
theorem b3v (n : Int) (l : List Ed) (a : Int) : (rpL n l a 8).length <= 8 := by
 unfold rpL
 exact Nat.le_trans (List.length_filter_le _ _) (by decide)
theorem d4f {ρ : Nat -> Option Nat} {l : List Ed} {a p : Int} {ks : List (List Int)} {v : AV} (hv : sub ρ (plA (gpF l [a, p])) v) : a3v ρ (peB (addKey ks [a, p]) (gpF l)) (.map (some 2) (addKey ks [a, p]) (b1d (fun k => plA (gpF l k)) [a, p] v)) :=
 a9h a0y rfl hv fun _ _ _ => rfl
set_option maxHeartbeats 4000000 in
theorem c2i (m : Nat) (l : List Ed) (cap : Option Nat) (hl : l.length <= maxLen) (ns : List Nd) (cap' : Option Nat) (hm : ns.length = m) (hc : ckC m l = 0) :
  Runs Tryz.prog 35 [aN m l cap ns cap'] [gB l, ndB ns] (Det (.agg [.sl 1 6 0 ns.length cap', .sl 2 1 0 ns.length none, .map 3]) [gB l, ndB ns, .fam true 29 3 1 ns.length (b1e b3h 0 (prR m l ns.length)) none 0, peB (pkA m l ns.length) (gpF l)]) := by
 have hmx : maxLen = 9223372036854775807 := by decide
 obtain ⟨m', hmm, hmb, hl64, hed⟩ := a4d hc
 obtain rfl : m = m' := by omega
 refine Runs.mk a0k Tryz.call35 Tryz.func35 rfl Tryz.ntmps35 Tryz.results35 rfl ?_
 (repeat' (first
  | refine SP ?_
  | refine a0c ?_
  ))
 refine a0p (σ := Nat) (fun x => x <= ns.length) (fun x => ⟨[(1, .ptr 2 3 0 0), (2, .ptr 3 3 0 0), (3, .ptr 4 3 0 0), (17, .val (.int .i64 ns.length)), (18, .val (.int .i64 x))], [gB l, ndB ns, .var [.val (.int .i64 m), .sl 0 4 0 l.length cap, .sl 1 6 0 ns.length cap'], .var [.dead, .dead, .dead], .var [.sl 1 6 0 ns.length cap', .sl 5 1 0 x none, .map 6], .fam true 29 3 1 x (b1e b3h 0 (prR m l x)) none 0, peB (pkA m l x) (gpF l)]⟩) (fun x => ns.length - x) (0) ?_ ?_ ?_
 ·omega
 ·(apply a04 [some 0, some 1, some 2, some 3, some 5, none, some 4]; (focus (iterate 2 (all_goals (repeat' (first | exact a2z | exact a02 rfl | refine map_mk ?_ ?_ | exact a0g | exact trivial | refine SP ?_ | refine And.intro ?_ ?_ | refine a0d ?_ ?_ | refine a09 ?_ | exact a0z rfl rfl | exact a0r rfl rfl rfl | exact a0b _ _ | exact a0j rfl rfl rfl | exact b3u rfl | ((first | show (_ : Nat) = _); first | with_reducible rfl | omega | ((try simp only [wS]); omega) | rfl) | with_reducible rfl ))))); any_goals (apply a0e; rfl))
  ·rfl
  ·intro x hx; cases hx
 rintro z hz
 by_cases hzl : z < ns.length
 ·have hhz : hasB m l z = true := decide_eq_true ⟨hc, by omega, by omega⟩
  have hpo := c7m m l cap hl z hhz
  have hS : prR m l (z + 1) = prR m l z ++ [rpL m l z 8] := rfl
  have hP : pkA m l (z + 1) = pkN z (rpL m l z 8) (pkA m l z) := rfl
  have hL := a4a m l z
  generalize hpk1 : pkA m l (z + 1) = K1 at *
  generalize hW : rpL m l z 8 = W at *
  generalize prR m l z = R at *
  generalize pkA m l z = K at *
  have hpe : ∀ p ∈ W, a1h m l z p = ((gpF l [(z : Int), p]).1, (gpF l [(z : Int), p]).2, true) := fun p hp => by
   rw [<- hW] at hp
   have h2 : (a1h m l z p).2.2 = true := ((b2f ..).1 hp).2
   have h3 : a1h m l z p = a2d l z p := by unfold a1h; rw [if_pos hhz]
   rw [h3] at h2 ⊢
   show a2d l z p = ((a2d l z p).1, (a2d l z p).2.1, true)
   rw [<- h2]
  have hpr := fun p => d0a m l cap hl z p
  have hS' : prR m l (z + 1) = R ++ [W] := hS
  clear hS
  have hRz : (R ++ [W]).getD z [] = W := by rw [List.getD_eq_getElem?_getD, List.getElem?_append_right (by omega), hL, Nat.sub_self]; rfl
  rcases W with _ | ⟨w0, W⟩
  ·have hP' : K1 = K := hP
   rw [List.length_nil] at hpo
   (repeat' (first
  | refine SP ?_
  | refine a1d (by decide) ?_
  | (apply a0a <;> intro hb <;> (try simp only [nS, nT, eq_self, reduceCtorEq] at hb) <;> (try (exfalso; omega)))
  | refine a0c ?_
  | refine OB ?_
  | ((first | apply a1z (hpo) ); exact AS; (try (any_goals fail)))
  | (refine b6g 1 ?_)
  | (apply a0i (Subtype.mk (z + 1) (by first | omega | (simp only; omega))); (focus (rw [hpk1, hP', hS']; apply a04 [some 0, some 1, some 2, some 3, some 4, some 9, some 6]; (focus (iterate 2 (all_goals (repeat' (first | exact a2z | exact a0l a0y rfl (fun _ _ => rfl) | exact a02 rfl | exact a0g | exact trivial | refine SP ?_ | refine And.intro ?_ ?_ | refine a0d ?_ ?_ | refine a09 ?_ | exact a0z rfl rfl | exact a0r rfl rfl rfl | exact a0b _ _ | exact a0j rfl rfl rfl | ((refine a0f ?_); first | with_reducible rfl | omega | ((try simp only [wS]); omega) | rfl) ))))); any_goals (apply a0e; rfl))); (all_goals (try (first | (simp only; omega)))))
  ))
   all_goals first
    | exact c0r (l := []) (a5o rfl rfl rfl) rfl rfl hL.symm rfl rfl
    | fail
  ·generalize hWW : (w0 :: W) = WW at *
   have hWl : WW.length = W.length + 1 := by rw [<- hWW]; rfl
   have hPf : K1 = WW.foldl (fun ks p => addKey ks [(z : Int), p]) K := hP
   rw [hWl] at hpo
   generalize hRR : R ++ [WW] = RR at *
   have hmx8 : WW.length <= 8 := by
    rw [<- hW]; exact b3v _ _ _
   (repeat' (first
  | refine SP ?_
  | (apply a0a <;> intro hb <;> (try simp only [nS, nT, eq_self, reduceCtorEq] at hb) <;> (try (exfalso; omega)))
  | refine a0c ?_
  | refine OB ?_
  | ((first | apply a1z (hpo) ); exact AS; (try (any_goals fail)))
  ))
   refine a0p (σ := Nat) (fun x => x <= WW.length) (fun x => ⟨[(1, .ptr 2 3 0 0), (2, .ptr 3 3 0 0), (3, .ptr 4 3 0 0), (4, .val (.int .i64 z)), (17, .val (.int .i64 ns.length)), (18, .val (.int .i64 z)), (31, .sl 7 1 0 WW.length none), (32, .val (.int .i64 WW.length)), (33, .val (.int .i64 x))], [gB l, ndB ns, .var [.val (.int .i64 m), .sl 0 4 0 l.length cap, .sl 1 6 0 ns.length cap'], .var [.dead, .dead, .dead], .var [.sl 1 6 0 ns.length cap', .sl 5 1 0 (z + 1) none, .map 6], .fam true 29 3 1 (z + 1) (b1e b3h 0 RR) none 0, peB ((WW.take x).foldl (fun ks p => addKey ks [(z : Int), p]) K) (gpF l), .row 5 z]⟩) (fun x => WW.length - x) (0) ?_ ?_ ?_
   ·omega
   ·(apply a04 [some 0, some 1, some 2, some 3, some 4, some 9, some 6, some 7]; (focus (iterate 2 (all_goals (repeat' (first | exact a2z | exact a6u rfl rfl | exact a0l a0y rfl (fun _ _ => rfl) | exact a02 rfl | exact a0g | exact trivial | refine SP ?_ | refine And.intro ?_ ?_ | refine a0d ?_ ?_ | refine a09 ?_ | exact a0z rfl rfl | exact a0r rfl rfl rfl | exact a0b _ _ | exact a0j rfl rfl rfl | ((first | refine a0f ?_ | refine a0r rfl rfl ?_ ); first | with_reducible rfl | omega | ((try simp only [wS]); omega) | rfl) ))))); any_goals (apply a0e; rfl))
    all_goals first
     | (rw [<- hRR]; refine c0r (l := WW) (a5o rfl ?_ rfl) ?_ rfl hL.symm rfl rfl <;> omega)
     | fail
   rintro j hj
   by_cases hjW : j < WW.length
   ·have hzj : 0 + Int.toNat (j : Int) = j := by omega
    have hS2 := a8o (fun ks p => addKey ks [(z : Int), p]) K WW j 0 hjW
    have hpe' := hpe _ (a2s WW j 0 hjW)
    have hpp := hpr (WW.getD j 0)
    rw [hpe'] at hpp
    have hPe : (RR.getD z []).getD (0 + Int.toNat (j : Int)) 0 = WW.getD j 0 := by rw [hRz, hzj]
    have hR2 : (b1e b3h 0 RR z).1 = WW.length := by rw [a7c, hRz]
    rw [<- hPe] at hS2 hpp
    generalize hq' : (WW.take (j + 1)).foldl (fun ks p => addKey ks [(z : Int), p]) K = q' at *
    generalize (WW.take j).foldl (fun ks p => addKey ks [(z : Int), p]) K = q at *
    (repeat' (first
  | refine SP ?_
  | (with_reducible refine a01 ?_)
  | (apply a0a <;> intro hb <;> (try simp only [nS, nT, eq_self, reduceCtorEq] at hb) <;> (try (exfalso; omega)))
  | refine a0c ?_
  | refine OB ?_
  | ((first | apply a1z (hpp) ); exact AS; (try (any_goals fail)))
  | (apply a0i (Subtype.mk (j + 1) (by first | omega | (simp only; omega))); (focus (rw [hq', hS2]; apply a04 [some 0, some 1, some 2, some 3, some 4, some 5, some 6, some 7]; (focus (iterate 2 (all_goals (repeat' (first | exact a2z | exact a00 rfl rfl rfl | exact a6u rfl rfl | refine d4f ?_ | exact a02 rfl | exact a0g | exact trivial | refine SP ?_ | refine And.intro ?_ ?_ | refine a0d ?_ ?_ | refine a1i ?_ | refine a09 ?_ | exact a0z rfl rfl | exact a0r rfl rfl rfl | exact a0b _ _ | exact a0j rfl rfl rfl | ((refine a0f ?_); first | with_reducible rfl | omega | ((try simp only [wS]); omega) | rfl) ))))); any_goals (apply a0e; rfl))); (all_goals (try (first | (simp only; omega)))))
  ))
   ·obtain rfl : j = WW.length := by omega
    rw [List.take_length, <- hPf]
    (repeat' (first
  | refine SP ?_
  | (apply a0a <;> intro hb <;> (try simp only [nS, nT, eq_self, reduceCtorEq] at hb) <;> (try (exfalso; omega)))
  | (apply a0i (Subtype.mk (z + 1) (by first | omega | (simp only; omega))); (focus (rw [hpk1, hS']; apply a04 [some 0, some 1, some 2, some 3, some 4, some 5, some 6]; (focus (iterate 2 (all_goals (repeat' (first | exact a2z | exact a00 rfl rfl rfl | exact a0l a0y rfl (fun _ _ => rfl) | exact a02 rfl | exact a0g | exact trivial | refine SP ?_ | refine And.intro ?_ ?_ | refine a0d ?_ ?_ | refine a09 ?_ | exact a0z rfl rfl | exact a0r rfl rfl rfl | exact a0b _ _ | exact a0j rfl rfl rfl | ((refine a0f ?_); first | with_reducible rfl | omega | ((try simp only [wS]); omega) | rfl) ))))); any_goals (apply a0e; rfl))); (all_goals (try (first | (simp only; omega)))))
  ))
 ·obtain rfl : z = ns.length := by omega
  (repeat' (first
  | refine SP ?_
  | (apply a0a <;> intro hb <;> (try simp only [nS, nT, eq_self, reduceCtorEq] at hb) <;> (try (exfalso; omega)))
  | (apply a0v [some 0, some 1, some 5, some 6]; (focus (iterate 2 (all_goals (repeat' (first | exact a00 rfl rfl rfl | exact a0l a0y rfl (fun _ _ => rfl) | exact a02 rfl | exact a0g | exact trivial | refine SP ?_ | refine And.intro ?_ ?_ | refine a0d ?_ ?_ | refine a1i ?_ | exact a0r rfl rfl rfl | exact a0j rfl rfl rfl ))))); any_goals (apply a0e; rfl))
  ))
end Go.Vx.L58
set_option maxRecDepth 100000
namespace Go.Vx.L58
open Go Go.Proofs
theorem b95 (ks : List (List Int)) (n k : List Int) : k ∈ addKey ks n ↔ k ∈ ks \/ k = n := by
 unfold addKey
 cases h : ks.contains n with
 | true =>
  rw [cond_true]
  exact ⟨.inl, fun e => e.elim id fun e => e ▸ List.contains_iff_mem.1 h⟩
 | false => rw [cond_false]; simp
theorem c1f (x : Nat) : ∀ (L : List Int) (ks : List (List Int)) (k : List Int), k ∈ pkN x L ks ↔ k ∈ ks \/ ∃ p ∈ L, k = [(x : Int), p]
 | [], ks, k => by simp [pkN]
 | p :: L, ks, k => by
  have ih := c1f x L (addKey ks [(x : Int), p]) k
  unfold pkN at ih ⊢
  rw [List.foldl_cons, ih, b95]
  simp [or_assoc]
theorem b0o (n : Int) (l : List Ed) : ∀ (x : Nat) (k : List Int), k ∈ pkA n l x ↔ ∃ z, z < x /\ ∃ p ∈ rpL n l z 8, k = [(z : Int), p]
 | 0, k => by simp [pkA]
 | x + 1, k => by
  rw [pkA, c1f, b0o n l x]
  constructor
  ·rintro (⟨z, hz, p, hp, e⟩ | ⟨p, hp, e⟩)
   ·exact ⟨z, by omega, p, hp, e⟩
   ·exact ⟨x, by omega, p, hp, e⟩
  ·rintro ⟨z, hz, p, hp, e⟩
   by_cases h : z = x
   ·subst h; exact .inr ⟨p, hp, e⟩
   ·exact .inl ⟨z, by omega, p, hp, e⟩
def meC (m : Mm) : List AV := .val (.int .i64 m.node) :: .val (.int .i64 m.port) :: .val (.int .i64 m.age) :: dC m.set
instance : FlatC meC := ⟨fun x v h => by simp [meC, dC] at h; rcases h with rfl | rfl | rfl | rfl | rfl | rfl | rfl | rfl | rfl | rfl | rfl | rfl | rfl | rfl <;> trivial⟩
abbrev mm0 : Mm := ⟨0, 0, 0, default⟩
abbrev meF (l : List Mm) : Nat -> Nat -> AV := a2e meC mm0 l
abbrev meB (rw : Bool) (l : List Mm) : Blk := .arr rw 198 14 l.length (meF l)
def a3r (ms : List Mm) : Nat -> Int × Int
 | 0 => (-1, 0)
 | x + 1 => ((ms.getD x mm0).node, (ms.getD x mm0).port)
def okM (ns : List Nd) (pk : List (List Int)) (ms : List Mm) (i : Nat) : Bool := vlM ns pk (ms.getD i mm0) && decide (¬ ((ms.getD i mm0).node < (a3r ms i).1 \/ ((ms.getD i mm0).node = (a3r ms i).1 /\ (ms.getD i mm0).port <= (a3r ms i).2)))
def okL (ns : List Nd) (pk : List (List Int)) (ms : List Mm) : Bool := (List.range ms.length).all (okM ns pk ms)
def ad1 (s : MS) (m : Mm) : MS := ⟨addKey s.ks [m.node, m.port], fun k => bif k == [m.node, m.port] then m else s.g k⟩
def b24 (ms : List Mm) : Nat -> MS
 | 0 => ⟨[], fun _ => mm0⟩
 | x + 1 => ad1 (b24 ms x) (ms.getD x mm0)
abbrev b0p (ms : List Mm) : MS := b24 ms ms.length
theorem c7r {ρ : Nat -> Option Nat} {s : MS} {m : Mm} {v : AV} (hv : sub ρ (meA m) v) : a3v ρ (mB (ad1 s m)) (.map (some 2) (addKey s.ks [m.node, m.port]) (b1d (fun k => meA (s.g k)) [m.node, m.port] v)) := by
 refine a9h a1b rfl ?_ fun x _ hne => ?_
 ·show sub ρ (meA ((ad1 s m).g [m.node, m.port])) v
  have : (ad1 s m).g [m.node, m.port] = m := by simp [ad1]
  rw [this]; exact hv
 ·have : (ad1 s m).g x = s.g x := by
   have e : (x == [m.node, m.port]) = false := by simpa using hne
   simp only [ad1, e, cond_false]
  show meA (s.g x) = meA ((ad1 s m).g x)
  rw [this]
def enE (m : Int) (l : List Ed) (ns : List Nd) (rd : Int) (ms : List Mm) : Int := if ckE m l ns ≠ 0 then ckE m l ns else if rd < 0 \/ 1073741824 < rd then 2 else if okL ns (pkA m l ns.length) ms = true then 0 else 2
theorem a5h {n : Int} {l : List Ed} {ns : List Nd} (h : ckE n l ns = 0) : ckC n l = 0 /\ (ns.length : Int) = n /\ b69 ns ns.length 0 = 0 := by
 unfold ckE at h
 by_cases h1 : ckC n l = 0
 ·rw [if_neg (by omega)] at h
  by_cases h2 : (ns.length : Int) = n
  ·rw [if_neg (by omega)] at h; exact ⟨h1, h2, h⟩
  ·rw [if_pos h2] at h; cases h
 ·rw [if_pos h1] at h; exact absurd h h1
abbrev aBl (rd : Int) (ms : List Mm) (cap : Option Nat) (b : Nat) : AV := .agg [.val (.int .i64 rd), .sl b 14 0 ms.length cap]
abbrev d6m : AV := .agg [.val (.slice none 0 0), .val (.slice none 0 0), .val (.map none)]
theorem c5l {ns : List Nd} {pk : List (List Int)} {ms : List Mm} {i : Nat} (hi : i < ms.length) (h : okM ns pk ms i = false) : okL ns pk ms = false := by
 unfold okL
 rw [List.all_eq_false]
 exact ⟨i, List.mem_range.2 hi, by rw [h]; simp⟩
set_option maxHeartbeats 4000000 in
theorem b8e (n : Int) (l : List Ed) (cap : Option Nat) (hl : l.length <= maxLen) (ns : List Nd) (cap' : Option Nat) (hn : ns.length <= maxLen) (rd : Int) (ms : List Mm) (cap2 : Option Nat) (hm : ms.length <= maxLen) :
  (enE n l ns rd ms ≠ 0 -> Runs Tryz.prog 80 [aN n l cap ns cap', aBl rd ms cap2 2] [gB l, ndB ns, meB false ms] (Det (.tup [d6m, .val (.map none), .val (.int .i64 (enE n l ns rd ms))]) [gB l, ndB ns, meB false ms])) /\
  (enE n l ns rd ms = 0 -> Runs Tryz.prog 80 [aN n l cap ns cap', aBl rd ms cap2 2] [gB l, ndB ns, meB false ms] (Det (.tup [.agg [.sl 1 6 0 ns.length cap', .sl 3 1 0 ns.length none, .map 4], .map 5, .val (.int .i64 0)]) [gB l, ndB ns, meB false ms, .fam true 29 3 1 ns.length (b1e b3h 0 (prR n l ns.length)) none 0, peB (pkA n l ns.length) (gpF l), mB (b0p ms)])) := by
 have hmx : maxLen = 9223372036854775807 := by decide
 have hck := b41 n l cap hl ns cap' hn
 by_cases hc : ckE n l ns = 0
 rotate_left
 ·have e : enE n l ns rd ms = ckE n l ns := by unfold enE; rw [if_pos hc]
  refine ⟨fun _ => ?_, fun h => absurd (e ▸ h) hc⟩
  rw [e]
  generalize ckE n l ns = c at *
  refine Runs.mk a0k Tryz.call80 Tryz.func80 rfl Tryz.ntmps80 Tryz.results80 rfl ?_
  (repeat' (first
  | refine SP ?_
  | (apply a0a <;> intro hb <;> (try simp only [nS, nT, eq_self, reduceCtorEq] at hb) <;> (try (exfalso; omega)))
  | refine a0c ?_
  | refine CT [some 0, some 1] hck ?_
  | exact RT [some 0, some 1, some 2]
  ))
 obtain ⟨hc1, hc2, _⟩ := a5h hc
 rw [hc] at hck
 subst hc2
 have hsu := c2i ns.length l cap hl ns cap' rfl hc1
 by_cases hrd : rd < 0 \/ 1073741824 < rd
 ·have e : enE ns.length l ns rd ms = 2 := by unfold enE; rw [if_neg (by omega), if_pos hrd]
  refine ⟨fun _ => ?_, fun h => by rw [e] at h; cases h⟩
  rw [e]
  rcases hrd with hrd | hrd
  all_goals
   refine Runs.mk a0k Tryz.call80 Tryz.func80 rfl Tryz.ntmps80 Tryz.results80 rfl ?_
   (repeat' (first
  | refine SP ?_
  | (apply a0a <;> intro hb <;> (try simp only [nS, nT, eq_self, reduceCtorEq] at hb) <;> (try (exfalso; omega)))
  | refine a0c ?_
  | refine CT [some 0, some 1] hck ?_
  | refine CT [some 0, some 1] hsu ?_
  | exact RT [some 0, some 1, some 2]
  ))
 have hrd' : 0 <= rd /\ rd <= 1073741824 := by omega
 have hrl := a4a ns.length l ns.length
 have hpk : ∀ a p : Int, [a, p] ∈ pkA ns.length l ns.length -> 0 <= a /\ a < ns.length := fun a p h => by
  obtain ⟨z, h1, p', _, h3⟩ := (b0o ..).1 h
  simp only [List.cons.injEq] at h3
  omega
 cases hL : okL ns (pkA ns.length l ns.length) ms
 ·have e : enE ns.length l ns rd ms = 2 := by unfold enE; rw [if_neg (by omega), if_neg (by omega), hL]; rfl
  refine ⟨fun _ => ?_, fun h => by rw [e] at h; cases h⟩
  rw [e]
  refine Runs.mk a0k Tryz.call80 Tryz.func80 rfl Tryz.ntmps80 Tryz.results80 rfl ?_
  (repeat' (first
  | refine SP ?_
  | (apply a0a <;> intro hb <;> (try simp only [nS, nT, eq_self, reduceCtorEq] at hb) <;> (try (exfalso; omega)))
  | refine a0c ?_
  | refine CT [some 0, some 1] hck ?_
  | refine CT [some 0, some 1] hsu ?_
  ))
  refine a0p (σ := Nat) (fun x => x <= ms.length /\ ∀ y, y < x -> okM ns (pkA ns.length l ns.length) ms y = true) (fun x => ⟨[(4, .ptr 3 3 0 0), (8, .ptr 6 3 0 0), (9, .map 7), (10, .ptr 8 2 0 0), (34, .sl 2 14 0 ms.length cap2), (35, .val (.int .i64 ms.length)), (36, .val (.int .i64 x))], [gB l, ndB ns, meB false ms, .var [.val (.slice none 0 0), .val (.slice none 0 0), .val (.map none)], .fam true 29 3 1 ns.length (b1e b3h 0 (prR ns.length l ns.length)) none 0, peB (pkA ns.length l ns.length) (gpF l), .var [.sl 1 6 0 ns.length cap', .sl 4 1 0 ns.length none, .map 5], mB (b24 ms x), .var [.val (.int .i64 (a3r ms x).1), .val (.int .i64 (a3r ms x).2)]]⟩) (fun x => ms.length - x) (0) ?_ ?_ ?_
  ·exact ⟨by omega, fun y h => by omega⟩
  ·(apply a04 [some 0, some 1, some 2, some 5, some 6, some 7, some 8, some 9, some 10]; (focus (iterate 2 (all_goals (repeat' (first | exact a92 rfl rfl rfl | exact a0l a0y rfl (fun _ _ => rfl) | exact a02 rfl | refine map_mk ?_ ?_ | exact a0g | exact trivial | refine SP ?_ | refine And.intro ?_ ?_ | refine a0d ?_ ?_ | refine a09 ?_ | exact a0z rfl rfl | exact a0r rfl rfl rfl | exact a0b _ _ | exact a0j rfl rfl rfl ))))); any_goals (apply a0e; rfl))
   ·rfl
   ·intro x hx; cases hx
  rintro i ⟨hi, hie⟩
  have hz : 0 + Int.toNat (i : Int) = i := by omega
  have hva := b75 ns cap' (prR ns.length l ns.length) (pkA ns.length l ns.length) (gpF l) hpk (ms.getD (0 + Int.toNat (i : Int)) mm0)
  unfold aF fB at hva
  rw [hrl] at hva
  have hen : b24 ms (i + 1) = ad1 (b24 ms i) (ms.getD (0 + Int.toNat (i : Int)) mm0) := by rw [hz]; rfl
  have hla : a3r ms (i + 1) = ((ms.getD (0 + Int.toNat (i : Int)) mm0).node, (ms.getD (0 + Int.toNat (i : Int)) mm0).port) := by rw [hz]; rfl
  have hok : okM ns (pkA ns.length l ns.length) ms i = (vlM ns (pkA ns.length l ns.length) (ms.getD (0 + Int.toNat (i : Int)) mm0) && decide (¬ ((ms.getD (0 + Int.toNat (i : Int)) mm0).node < (a3r ms i).1 \/ ((ms.getD (0 + Int.toNat (i : Int)) mm0).node = (a3r ms i).1 /\ (ms.getD (0 + Int.toNat (i : Int)) mm0).port <= (a3r ms i).2)))) := by rw [hz]; rfl
  by_cases hil : i < ms.length
  ·cases hv : vlM ns (pkA ns.length l ns.length) (ms.getD (0 + Int.toNat (i : Int)) mm0)
   ·rw [hv] at hva
    generalize a3r ms i = la at *
    generalize b24 ms i = E at *
    (repeat' (first
  | refine SP ?_
  | (apply a0a <;> intro hb <;> (try simp only [nS, nT, eq_self, reduceCtorEq] at hb) <;> (try (exfalso; omega)))
  | refine a0c ?_
  | refine OB ?_
  | ((first | apply a1a [some 1, some 4, some 5] (hva) ); (focus ((iterate 2 (all_goals (repeat' (first | exact a00 rfl rfl rfl | exact a0l a0y rfl (fun _ _ => rfl) | exact a02 rfl | exact a0g | exact trivial | refine SP ?_ | refine And.intro ?_ ?_ | refine a0d ?_ ?_ | refine a1i ?_ | exact a0r rfl rfl rfl | exact a0b _ _ | exact a0j rfl rfl rfl )))))); any_goals (apply a1j; rfl))
  | exact RT [some 0, some 1, some 2]
  ))
   ·rw [hv] at hva hok
    rw [Bool.true_and] at hok
    by_cases hd : (ms.getD (0 + Int.toNat (i : Int)) mm0).node < (a3r ms i).1 \/ ((ms.getD (0 + Int.toNat (i : Int)) mm0).node = (a3r ms i).1 /\ (ms.getD (0 + Int.toNat (i : Int)) mm0).port <= (a3r ms i).2)
    ·generalize a3r ms i = la at *
     generalize b24 ms i = E at *
     (repeat' (first
  | refine SP ?_
  | (apply a0a <;> intro hb <;> (try simp only [nS, nT, eq_self, reduceCtorEq] at hb) <;> (try (exfalso; omega)))
  | refine a0c ?_
  | refine OB ?_
  | ((first | apply a1a [some 1, some 4, some 5] (hva) ); (focus ((iterate 2 (all_goals (repeat' (first | exact a00 rfl rfl rfl | exact a0l a0y rfl (fun _ _ => rfl) | exact a02 rfl | exact a0g | exact trivial | refine SP ?_ | refine And.intro ?_ ?_ | refine a0d ?_ ?_ | refine a1i ?_ | exact a0r rfl rfl rfl | exact a0b _ _ | exact a0j rfl rfl rfl )))))); any_goals (apply a1j; rfl))
  | exact RT [some 0, some 1, some 2]
  ))
    ·rw [decide_eq_true hd] at hok
     have hie' : ∀ y, y < i + 1 -> okM ns (pkA ns.length l ns.length) ms y = true := fun y hy => by
      by_cases h : y = i
      ·rw [h]; exact hok
      ·exact hie y (by omega)
     generalize hE' : b24 ms (i + 1) = E' at *
     generalize hl' : a3r ms (i + 1) = la' at *
     generalize a3r ms i = la at *
     generalize b24 ms i = E at *
     (repeat' (first
  | refine SP ?_
  | (apply a0a <;> intro hb <;> (try simp only [nS, nT, eq_self, reduceCtorEq] at hb) <;> (try (exfalso; omega)))
  | refine a0c ?_
  | refine OB ?_
  | ((first | apply a1a [some 1, some 4, some 5] (hva) ); (focus ((iterate 2 (all_goals (repeat' (first | exact a00 rfl rfl rfl | exact a0l a0y rfl (fun _ _ => rfl) | exact a02 rfl | exact a0g | exact trivial | refine SP ?_ | refine And.intro ?_ ?_ | refine a0d ?_ ?_ | refine a1i ?_ | exact a0r rfl rfl rfl | exact a0b _ _ | exact a0j rfl rfl rfl )))))); any_goals (apply a1j; rfl))
  | (apply a0i (Subtype.mk (i + 1) ⟨by omega, hie'⟩); (focus (rw [hE', hl', hen, hla]; apply a04 [some 0, some 1, some 2, some 3, some 4, some 5, some 6, some 7, some 8]; (focus (iterate 2 (all_goals (repeat' (first | exact a00 rfl rfl rfl | exact a0l a0y rfl (fun _ _ => rfl) | refine c7r ?_ | exact a02 rfl | exact a0g | exact trivial | refine SP ?_ | refine And.intro ?_ ?_ | refine a0d ?_ ?_ | refine a1i ?_ | refine a09 ?_ | exact a0z rfl rfl | exact a0r rfl rfl rfl | exact a0b _ _ | exact a0j rfl rfl rfl | ((refine a0f ?_); first | with_reducible rfl | omega | ((try simp only [wS]); omega) | rfl) ))))); any_goals (apply a0e; rfl))); (all_goals (try (first | (simp only; omega)))))
  ))
  ·exfalso
   have : okL ns (pkA ns.length l ns.length) ms = true := by
    unfold okL
    rw [List.all_eq_true]
    exact fun y hy => hie y (by have := List.mem_range.1 hy; omega)
   rw [hL] at this; cases this
 ·have e : enE ns.length l ns rd ms = 0 := by unfold enE; rw [if_neg (by omega), if_neg (by omega), hL]; rfl
  refine ⟨fun h => absurd e h, fun _ => ?_⟩
  refine Runs.mk a0k Tryz.call80 Tryz.func80 rfl Tryz.ntmps80 Tryz.results80 rfl ?_
  (repeat' (first
  | refine SP ?_
  | (apply a0a <;> intro hb <;> (try simp only [nS, nT, eq_self, reduceCtorEq] at hb) <;> (try (exfalso; omega)))
  | refine a0c ?_
  | refine CT [some 0, some 1] hck ?_
  | refine CT [some 0, some 1] hsu ?_
  ))
  refine a0p (σ := Nat) (fun x => x <= ms.length /\ ∀ y, y < x -> okM ns (pkA ns.length l ns.length) ms y = true) (fun x => ⟨[(4, .ptr 3 3 0 0), (8, .ptr 6 3 0 0), (9, .map 7), (10, .ptr 8 2 0 0), (34, .sl 2 14 0 ms.length cap2), (35, .val (.int .i64 ms.length)), (36, .val (.int .i64 x))], [gB l, ndB ns, meB false ms, .var [.val (.slice none 0 0), .val (.slice none 0 0), .val (.map none)], .fam true 29 3 1 ns.length (b1e b3h 0 (prR ns.length l ns.length)) none 0, peB (pkA ns.length l ns.length) (gpF l), .var [.sl 1 6 0 ns.length cap', .sl 4 1 0 ns.length none, .map 5], mB (b24 ms x), .var [.val (.int .i64 (a3r ms x).1), .val (.int .i64 (a3r ms x).2)]]⟩) (fun x => ms.length - x) (0) ?_ ?_ ?_
  ·exact ⟨by omega, fun y h => by omega⟩
  ·(apply a04 [some 0, some 1, some 2, some 5, some 6, some 7, some 8, some 9, some 10]; (focus (iterate 2 (all_goals (repeat' (first | exact a92 rfl rfl rfl | exact a0l a0y rfl (fun _ _ => rfl) | exact a02 rfl | refine map_mk ?_ ?_ | exact a0g | exact trivial | refine SP ?_ | refine And.intro ?_ ?_ | refine a0d ?_ ?_ | refine a09 ?_ | exact a0z rfl rfl | exact a0r rfl rfl rfl | exact a0b _ _ | exact a0j rfl rfl rfl ))))); any_goals (apply a0e; rfl))
   ·rfl
   ·intro x hx; cases hx
  rintro i ⟨hi, hie⟩
  have hz : 0 + Int.toNat (i : Int) = i := by omega
  have hva := b75 ns cap' (prR ns.length l ns.length) (pkA ns.length l ns.length) (gpF l) hpk (ms.getD (0 + Int.toNat (i : Int)) mm0)
  unfold aF fB at hva
  rw [hrl] at hva
  have hen : b24 ms (i + 1) = ad1 (b24 ms i) (ms.getD (0 + Int.toNat (i : Int)) mm0) := by rw [hz]; rfl
  have hla : a3r ms (i + 1) = ((ms.getD (0 + Int.toNat (i : Int)) mm0).node, (ms.getD (0 + Int.toNat (i : Int)) mm0).port) := by rw [hz]; rfl
  have hok : okM ns (pkA ns.length l ns.length) ms i = (vlM ns (pkA ns.length l ns.length) (ms.getD (0 + Int.toNat (i : Int)) mm0) && decide (¬ ((ms.getD (0 + Int.toNat (i : Int)) mm0).node < (a3r ms i).1 \/ ((ms.getD (0 + Int.toNat (i : Int)) mm0).node = (a3r ms i).1 /\ (ms.getD (0 + Int.toNat (i : Int)) mm0).port <= (a3r ms i).2)))) := by rw [hz]; rfl
  by_cases hil : i < ms.length
  ·have hoi : okM ns (pkA ns.length l ns.length) ms i = true := by
    cases h : okM ns (pkA ns.length l ns.length) ms i
    ·rw [c5l hil h] at hL; cases hL
    ·rfl
   have hie' : ∀ y, y < i + 1 -> okM ns (pkA ns.length l ns.length) ms y = true := fun y hy => by
    by_cases h : y = i
    ·rw [h]; exact hoi
    ·exact hie y (by omega)
   rw [hoi] at hok
   have hok2 := hok.symm
   rw [Bool.and_eq_true, decide_eq_true_eq] at hok2
   obtain ⟨hv, hd⟩ := hok2
   rw [hv] at hva
   generalize hE' : b24 ms (i + 1) = E' at *
   generalize hl' : a3r ms (i + 1) = la' at *
   generalize a3r ms i = la at *
   generalize b24 ms i = E at *
   (repeat' (first
  | refine SP ?_
  | (apply a0a <;> intro hb <;> (try simp only [nS, nT, eq_self, reduceCtorEq] at hb) <;> (try (exfalso; omega)))
  | refine a0c ?_
  | refine OB ?_
  | ((first | apply a1a [some 1, some 4, some 5] (hva) ); (focus ((iterate 2 (all_goals (repeat' (first | exact a00 rfl rfl rfl | exact a0l a0y rfl (fun _ _ => rfl) | exact a02 rfl | exact a0g | exact trivial | refine SP ?_ | refine And.intro ?_ ?_ | refine a0d ?_ ?_ | refine a1i ?_ | exact a0r rfl rfl rfl | exact a0b _ _ | exact a0j rfl rfl rfl )))))); any_goals (apply a1j; rfl))
  | (apply a0i (Subtype.mk (i + 1) ⟨by omega, hie'⟩); (focus (rw [hE', hl', hen, hla]; apply a04 [some 0, some 1, some 2, some 3, some 4, some 5, some 6, some 7, some 8]; (focus (iterate 2 (all_goals (repeat' (first | exact a00 rfl rfl rfl | exact a0l a0y rfl (fun _ _ => rfl) | refine c7r ?_ | exact a02 rfl | exact a0g | exact trivial | refine SP ?_ | refine And.intro ?_ ?_ | refine a0d ?_ ?_ | refine a1i ?_ | refine a09 ?_ | exact a0z rfl rfl | exact a0r rfl rfl rfl | exact a0b _ _ | exact a0j rfl rfl rfl | ((refine a0f ?_); first | with_reducible rfl | omega | ((try simp only [wS]); omega) | rfl) ))))); any_goals (apply a0e; rfl))); (all_goals (try (first | (simp only; omega)))))
  ))
  ·obtain rfl : i = ms.length := by omega
   (repeat' (first
  | refine SP ?_
  | (apply a0a <;> intro hb <;> (try simp only [nS, nT, eq_self, reduceCtorEq] at hb) <;> (try (exfalso; omega)))
  | (apply a0v [some 0, some 1, some 2, some 4, some 5, some 7]; (focus (iterate 2 (all_goals (repeat' (first | exact a00 rfl rfl rfl | exact a0l a0y rfl (fun _ _ => rfl) | exact a0l a1b rfl (fun _ _ => rfl) | exact a02 rfl | exact a0g | exact trivial | refine SP ?_ | refine And.intro ?_ ?_ | refine a0d ?_ ?_ | refine a1i ?_ | refine a1c ?_ | exact a0r rfl rfl rfl | exact a0b _ _ | exact a0j rfl rfl rfl ))))); any_goals (apply a0e; rfl))
  ))
end Go.Vx.L58
set_option maxRecDepth 100000
namespace Go.Vx.L58
open Go Go.Proofs
def lsP (s : MS) (x : Nat) (acc : List Mm) (p : Int) : List Mm := if s.ks.contains [(x : Int), p] = true then acc ++ [s.g [(x : Int), p]] else acc
def lsA (rs : List (List Int)) (s : MS) : Nat -> List Mm
 | 0 => []
 | x + 1 => (rs.getD x []).foldl (lsP s x) (lsA rs s x)
theorem b60 (s : MS) (x : Nat) : ∀ (L : List Int) (acc : List Mm), (L.foldl (lsP s x) acc).length <= acc.length + L.length
 | [], acc => by simp
 | p :: L, acc => by
  rw [List.foldl_cons]
  have := b60 s x L (lsP s x acc p)
  have h2 : (lsP s x acc p).length <= acc.length + 1 := by
   unfold lsP; split
   ·simp
   ·omega
  simp only [List.length_cons]; omega
theorem c2s {rs : List (List Int)} (s : MS) {n : Nat} (hr : ∀ x, x < n -> (rs.getD x []).length <= 8) : ∀ x, x <= n -> (lsA rs s x).length <= 8 * x
 | 0, _ => by simp [lsA]
 | x + 1, hx => by
  have h1 := c2s s hr x (by omega)
  have h2 := b60 s x (rs.getD x []) (lsA rs s x)
  have := hr x (by omega)
  rw [lsA]; omega
set_option maxHeartbeats 4000000 in
theorem d07 (ns : List Nd) (cap : Option Nat) (rs pk : List (List Int)) (gp : List Int -> Int × Int) (hn : rs.length <= 24) (hr : ∀ x, x < rs.length -> (rs.getD x []).length <= 8) (s : MS) :
  Runs Tryz.prog 82 [aF ns cap rs, .map 3] [ndB ns, nR rs.length rs, peB pk gp, mB s] (Det (.sl 4 14 0 (lsA rs s rs.length).length none) [ndB ns, nR rs.length rs, peB pk gp, mB s, meB true (lsA rs s rs.length)]) := by
 have hll := c2s s hr
 refine Runs.mk a0k Tryz.call82 Tryz.func82 rfl Tryz.ntmps82 Tryz.results82 rfl ?_
 (repeat' (first
  | refine SP ?_
  | refine a0c ?_
  ))
 refine a0p (σ := Nat) (fun x => x <= rs.length) (fun x => ⟨[(1, .map 3), (5, .sl 4 14 0 (lsA rs s x).length none), (13, .sl 1 1 0 rs.length none), (14, .val (.int .i64 rs.length)), (15, .val (.int .i64 x))], [ndB ns, nR rs.length rs, peB pk gp, mB s, meB true (lsA rs s x)]⟩) (fun x => rs.length - x) (0) ?_ ?_ ?_
 ·omega
 ·(apply a04 [some 0, some 1, some 2, some 3, none]; (focus (iterate 2 (all_goals (repeat' (first | exact a00 rfl rfl rfl | exact a0l a0y rfl (fun _ _ => rfl) | exact a0l a1b rfl (fun _ _ => rfl) | exact a02 rfl | exact trivial | refine SP ?_ | refine And.intro ?_ ?_ | exact a0r rfl rfl rfl | exact a0b _ _ | exact a0j rfl rfl rfl | exact b3u rfl | ((refine c2e ?_); first | with_reducible rfl | omega | ((try simp only [wS]); omega) | rfl) ))))); any_goals (apply a0e; rfl))
 rintro z hz
 have hlz := hll z hz
 by_cases hzl : z < rs.length
 ·have hz0 : 0 + Int.toNat (z : Int) = z := by omega
  have hsz : lsA rs s (z + 1) = (rs.getD z []).foldl (lsP s z) (lsA rs s z) := rfl
  have hrz := hr z hzl
  have hlen := fun k => b60 s z ((rs.getD z []).take k) (lsA rs s z)
  generalize hsz1 : lsA rs s (z + 1) = A1 at *
  generalize lsA rs s z = A at *
  generalize hW : rs.getD z [] = W at *
  have hW2 : (b1e b3h 0 rs z).1 = W.length := by rw [a7c, hW]
  have hW3 : (b1e b3h 0 rs (0 + Int.toNat (z : Int))).1 = W.length := by rw [hz0, a7c, hW]
  (repeat' (first
  | refine SP ?_
  | (apply a0a <;> intro hb <;> (try simp only [nS, nT, eq_self, reduceCtorEq] at hb) <;> (try (exfalso; omega)))
  | refine a0c ?_
  | refine OB ?_
  ))
  refine a0p (σ := Nat) (fun x => x <= W.length) (fun x => ⟨[(1, .map 3), (5, .sl 4 14 0 ((W.take x).foldl (lsP s z) A).length none), (6, .val (.int .i64 z)), (13, .sl 1 1 0 rs.length none), (14, .val (.int .i64 rs.length)), (15, .val (.int .i64 z)), (20, .sl 5 1 0 W.length none), (21, .val (.int .i64 W.length)), (22, .val (.int .i64 x))], [ndB ns, nR rs.length rs, peB pk gp, mB s, meB true ((W.take x).foldl (lsP s z) A), .row 1 z]⟩) (fun x => W.length - x) (0) ?_ ?_ ?_
  ·omega
  ·(apply a04 [some 0, some 1, some 2, some 3, some 4, some 5]; (focus (iterate 2 (all_goals (repeat' (first | exact a00 rfl rfl rfl | (refine a6u rfl ?_) | exact a0l a0y rfl (fun _ _ => rfl) | exact a0l a1b rfl (fun _ _ => rfl) | exact a02 rfl | exact trivial | refine SP ?_ | refine And.intro ?_ ?_ | exact a0r rfl rfl rfl | exact a0b _ _ | exact a0j rfl rfl rfl | ((first | refine a0f ?_ | refine a0r rfl rfl ?_ | show (_ : Nat) = _); first | with_reducible rfl | omega | ((try simp only [wS]); omega) | rfl) ))))); any_goals (apply a0e; rfl))
  rintro j hj
  have hlj := hlen j
  rw [List.length_take] at hlj
  by_cases hjW : j < W.length
  ·have hzj : 0 + Int.toNat (j : Int) = j := by omega
   have hS2 := a8o (lsP s z) A W j 0 hjW
   have hPe : (rs.getD z []).getD (0 + Int.toNat (j : Int)) 0 = W.getD j 0 := by rw [hW, hzj]
   rw [<- hPe] at hS2
   generalize hq' : (W.take (j + 1)).foldl (lsP s z) A = q' at *
   generalize (W.take j).foldl (lsP s z) A = q at *
   unfold lsP at hS2
   cases hh : s.ks.contains [(z : Int), (rs.getD z []).getD (0 + Int.toNat (j : Int)) 0]
   ·rw [hh, if_neg (by simp)] at hS2
    (repeat' (first
  | refine SP ?_
  | (with_reducible refine a07 ?_)
  | (apply a0a <;> intro hb <;> (try simp only [nS, nT, eq_self, reduceCtorEq] at hb) <;> (try (exfalso; (first | omega | (rw [hh] at hb; cases hb)); done)))
  | refine a0c ?_
  | refine OB ?_
  | (apply a0i (Subtype.mk (j + 1) (by first | omega | (simp only; omega))); (focus (rw [hq', hS2]; apply a04 [some 0, some 1, some 2, some 3, some 4, some 5]; (focus (iterate 2 (all_goals (repeat' (first | exact a00 rfl rfl rfl | exact a6u rfl rfl | exact a0l a0y rfl (fun _ _ => rfl) | exact a0l a1b rfl (fun _ _ => rfl) | exact a02 rfl | exact trivial | refine SP ?_ | refine And.intro ?_ ?_ | exact a0r rfl rfl rfl | exact a0b _ _ | exact a0j rfl rfl rfl | ((refine a0f ?_); first | with_reducible rfl | omega | ((try simp only [wS]); omega) | rfl) ))))); any_goals (apply a0e; rfl))); (all_goals (try (first | (simp only; omega)))))
  ))
   ·rw [hh, if_pos rfl] at hS2
    (repeat' (first
  | refine SP ?_
  | (with_reducible refine a01 ?_)
  | (apply a0a <;> intro hb <;> (try simp only [nS, nT, eq_self, reduceCtorEq] at hb) <;> (try (exfalso; (first | omega | (rw [hh] at hb; cases hb)); done)))
  | refine a0c ?_
  | refine OB ?_
  | (apply a0i (Subtype.mk (j + 1) (by first | omega | (simp only; omega))); (focus (rw [hq', hS2]; apply a04 [some 0, some 1, some 2, some 3, some _, some 5]; (focus (iterate 2 (all_goals (repeat' (first | exact a00 rfl rfl rfl | exact a6u rfl rfl | exact a0l a0y rfl (fun _ _ => rfl) | exact a0l a1b rfl (fun _ _ => rfl) | exact a02 rfl | exact trivial | refine SP ?_ | refine And.intro ?_ ?_ | exact a0r rfl rfl rfl | exact a0b _ _ | exact a0j rfl rfl rfl | ((first | refine a0f ?_ | refine a0r rfl rfl ?_ | show (_ : Nat) = _); first | with_reducible rfl | omega | ((try simp only [wS]); omega) | rfl) | apply a3l | refine a0o ?_ ?_ | exact a3c | with_reducible rfl | refine a0r rfl rfl ?_ ))))); any_goals (apply a0e; rfl))); (all_goals (try (first | (simp only; omega)))))
  ))
    all_goals (rw [List.length_append]; rfl)
  ·obtain rfl : j = W.length := by omega
   rw [List.take_length, <- hsz]
   (repeat' (first
  | refine SP ?_
  | (apply a0a <;> intro hb <;> (try simp only [nS, nT, eq_self, reduceCtorEq] at hb) <;> (try (exfalso; omega)))
  | (apply a0i (Subtype.mk (z + 1) (by first | omega | (simp only; omega))); (focus (rw [hsz1]; apply a04 [some 0, some 1, some 2, some 3, some 4]; (focus (iterate 2 (all_goals (repeat' (first | exact a00 rfl rfl rfl | exact a0l a0y rfl (fun _ _ => rfl) | exact a0l a1b rfl (fun _ _ => rfl) | exact a02 rfl | exact trivial | refine SP ?_ | refine And.intro ?_ ?_ | exact a0r rfl rfl rfl | exact a0b _ _ | exact a0j rfl rfl rfl | ((refine a0f ?_); first | with_reducible rfl | omega | ((try simp only [wS]); omega) | rfl) ))))); any_goals (apply a0e; rfl))); (all_goals (try (first | (simp only; omega)))))
  ))
 ·obtain rfl : z = rs.length := by omega
  (repeat' (first
  | refine SP ?_
  | (apply a0a <;> intro hb <;> (try simp only [nS, nT, eq_self, reduceCtorEq] at hb) <;> (try (exfalso; omega)))
  | (apply a0v [some 0, some 1, some 2, some 3, some 4]; (focus (iterate 2 (all_goals (repeat' (first | exact a00 rfl rfl rfl | exact a0l a0y rfl (fun _ _ => rfl) | exact a0l a1b rfl (fun _ _ => rfl) | exact trivial | refine SP ?_ | refine And.intro ?_ ?_ | exact a0r rfl rfl rfl | exact a0j rfl rfl rfl ))))); any_goals (apply a0e; rfl))
  ))
end Go.Vx.L58

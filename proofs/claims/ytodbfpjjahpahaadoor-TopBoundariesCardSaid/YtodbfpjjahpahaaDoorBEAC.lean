/- Lemmas of a small executor for the model, and contracts of functions, used for the law that this claim proves. No condition. -/
import Derived.Test.YtodbfpjjahpahaaDoorBEAB
import Derived.Test.YtodbfpjjahpahaaDoorBEPA
set_option linter.unusedSimpArgs false
set_option linter.unusedVariables false
set_option maxRecDepth 100000
namespace Go.Vx.L42
open Go Go.Proofs
end Go.Vx.L42
set_option maxRecDepth 100000
namespace Go.Vx.L42
open Go Go.Proofs
structure Ch where
 m : Int
 s : Int
 deriving DecidableEq, Inhabited
def chC (c : Ch) : List AV := [.val (.int .i64 c.m), .val (.int .i64 c.s)]
instance : FlatC chC := ⟨fun x v h => by simp [chC] at h; rcases h with rfl | rfl <;> trivial⟩
abbrev ch0 : Ch := ⟨0, 0⟩
abbrev chF (l : List Ch) : Nat -> Nat -> AV := a2x chC ch0 l
abbrev chB (rw : Bool) (l : List Ch) : Blk := .arr rw 46 2 l.length (chF l)
end Go.Vx.L42
set_option maxRecDepth 100000
namespace Go.Vx.L42
open Go Go.Proofs
def dsN (ns : List Nd) (l : List Ed) (x j : Nat) : Int := (dsA ns.length l x).getD j 0
def exC (ns : List Nd) (l : List Ed) (x i : Nat) : Nat × Int := b1e (fun y => owD (ns.getD y nd0)) (dsN ns l x) x i
def exL (ns : List Nd) (l : List Ed) : Nat -> List Ch
 | 0 => []
 | x + 1 => exL ns l x ++ [⟨((exC ns l x ns.length).1 : Int), (exC ns l x ns.length).2⟩]
theorem a5z (ns : List Nd) (l : List Ed) : ∀ x, (exL ns l x).length = x
 | 0 => rfl
 | x + 1 => by rw [exL, List.length_append, a5z ns l x]; rfl
theorem c35 (ns : List Nd) (l : List Ed) (x : Nat) (hx : x < ns.length) : ∀ i, i <= ns.length -> (exC ns l x i).1 < ns.length
 | 0, _ => hx
 | i + 1, hi => by
  have ih := c35 ns l x hx i (by omega)
  have e : exC ns l x (i + 1) = if 0 <= dsN ns l x i /\ a2e (owD (ns.getD i nd0)) (owD (ns.getD (exC ns l x i).1 nd0)) = true then (i, dsN ns l x i) else exC ns l x i := rfl
  rw [e]
  split
  ·show i < ns.length; omega
  ·exact ih
set_option maxHeartbeats 4000000 in
theorem a2u (n : Int) (l : List Ed) (cap : Option Nat) (hl : l.length <= maxLen) (ns : List Nd) (cap' : Option Nat) (hn : ns.length <= maxLen) (hwn : ∀ x, wfD (owD (ns.getD x nd0))) :
  (ckE n l ns ≠ 0 -> Runs Tryd.prog 8 [aN n l cap ns cap'] [gB l, ndB ns] (Det (.tup [.val (.slice none 0 0), .val (.int .i64 (ckE n l ns))]) [gB l, ndB ns])) /\
  (ckE n l ns = 0 -> Runs Tryd.prog 8 [aN n l cap ns cap'] [gB l, ndB ns] (Det (.tup [.sl 2 2 0 ns.length none, .val (.int .i64 0)]) [gB l, ndB ns, chB true (exL ns l ns.length)])) := by
 have hmx : maxLen = 9223372036854775807 := by decide
 have hck := a38 n l cap hl ns cap' hn
 by_cases hc : ckE n l ns = 0
 rotate_left
 ·refine ⟨fun _ => ?_, fun h => absurd h hc⟩
  generalize ckE n l ns = c at *
  refine Runs.mk a1a Tryd.call8 Tryd.func8 rfl Tryd.ntmps8 Tryd.results8 rfl ?_
  (repeat' (first
  | refine SP ?_
  | (apply a0g <;> intro hb <;> (try simp only [nS, nT, eq_self, reduceCtorEq] at hb) <;> (try (exfalso; omega)))
  | refine a0l ?_
  | ((first | apply a0j [some 0, some 1] (hck) ); (focus ((iterate 2 (all_goals (repeat' (first | exact a0c | exact trivial | refine SP ?_ | refine And.intro ?_ ?_ | refine a0b ?_ ?_ | refine a0o ?_ | exact a0i rfl rfl rfl | exact a0a _ _ | exact a0f rfl rfl rfl )))))); any_goals (apply a0k; rfl))
  | (apply a04 [some 0, some 1]; (focus (iterate 2 (all_goals (repeat' (first | exact a0c | exact trivial | refine SP ?_ | refine And.intro ?_ ?_ | refine a0b ?_ ?_ | refine a3m ?_ | exact a0a _ _ | exact a0f rfl rfl rfl ))))); any_goals (apply a0h; rfl))
  ))
 refine ⟨fun h => absurd hc h, fun _ => ?_⟩
 obtain ⟨hc1, hc2, _⟩ := b17 hc
 subst hc2
 have hN : NOK ns l := ⟨hc, hwn⟩
 have hF := fok hN
 have hn24 := hF.n24
 rw [hc] at hck
 have hsu := b8k ns.length l cap hl ns cap' rfl hc1
 have hrl := a8s ns.length l ns.length
 obtain ⟨m', hmm, hmb, hl64, hed⟩ := a6g hc1
 obtain rfl : ns.length = m' := by omega
 have hdl : ∀ a, a < ns.length -> (dsA ns.length l a).length = ns.length := fun a ha => by
  unfold dsA
  rw [if_pos (b4k hc1 (by omega) (by omega)), Int.toNat_natCast, Int.toNat_natCast]
  exact (c37 hed hmb.2 ha).1.len
 refine Runs.mk a1a Tryd.call8 Tryd.func8 rfl Tryd.ntmps8 Tryd.results8 rfl ?_
 (repeat' (first
  | refine SP ?_
  | (apply a0g <;> intro hb <;> (try simp only [nS, nT, eq_self, reduceCtorEq] at hb) <;> (try (exfalso; fail; done)))
  | refine a0l ?_
  | ((first | apply a0j [some 0, some 1] (hck) ); (focus ((iterate 2 (all_goals (repeat' (first | exact a0c | exact trivial | refine SP ?_ | refine And.intro ?_ ?_ | refine a0b ?_ ?_ | refine a0o ?_ | exact a0i rfl rfl rfl | exact a0a _ _ | exact a0f rfl rfl rfl )))))); any_goals (apply a0k; rfl))
  | ((first | apply a0j [some 0, some 1] (hsu) ); (focus ((iterate 2 (all_goals (repeat' (first | exact a0c | exact trivial | refine SP ?_ | refine And.intro ?_ ?_ | refine a0b ?_ ?_ | refine a0o ?_ | exact a0i rfl rfl rfl | exact a0a _ _ | exact a0f rfl rfl rfl )))))); any_goals (apply a0k; rfl))
  ))
 refine a00 (σ := Nat) (fun x => x <= ns.length) (fun x => ⟨[(1, .ptr 2 3 0 0), (5, .ptr 5 3 0 0), (6, .sl 6 2 0 x none), (20, .val (.int .i64 ns.length)), (21, .val (.int .i64 x))], [gB l, ndB ns, .var [.val (.int .i64 ns.length), .sl 0 4 0 l.length cap, .sl 1 6 0 ns.length cap'], .fam true 58 3 1 ns.length (a3i a78 0 (rsN ns l)) none 0, peB (c67 ns l) (gpF l), .var [.sl 1 6 0 ns.length cap', .sl 3 1 0 ns.length none, .map 4], chB true (exL ns l x)]⟩) (fun x => ns.length - x) (0) ?_ ?_ ?_
 ·omega
 ·(apply a0t [some 0, some 1, some 2, some 3, some 4, some 5, none]; (focus (iterate 2 (all_goals (repeat' (first | exact c1v rfl rfl rfl | exact a18 a2h rfl (fun _ _ => rfl) | exact a0x rfl | exact a0c | exact trivial | refine SP ?_ | refine And.intro ?_ ?_ | refine a0b ?_ ?_ | refine a0n ?_ | exact a0d rfl rfl | exact a0i rfl rfl rfl | exact a0a _ _ | exact a0f rfl rfl rfl | exact a3a rfl | ((refine a52 ?_); first | with_reducible rfl | omega | ((try simp only [wS]); omega) | rfl) ))))); any_goals (apply a0h; rfl))
 rintro z hx
 have hlx := a5z ns l z
 have hsx : exL ns l (z + 1) = exL ns l z ++ [⟨((exC ns l z ns.length).1 : Int), (exC ns l z ns.length).2⟩] := rfl
 by_cases hzl : z < ns.length
 ·have hd := c45 ns.length l cap hl z
  have hdx := hdl z hzl
  rw [hdx] at hd
  have hcl := c35 ns l z hzl
  have hcs : ∀ i, exC ns l z (i + 1) = if 0 <= (dsA ns.length l z).getD i 0 /\ a2e (owD (ns.getD i nd0)) (owD (ns.getD (exC ns l z i).1 nd0)) = true then (i, (dsA ns.length l z).getD i 0) else exC ns l z i := fun _ => rfl
  have hc0 : exC ns l z 0 = (z, 0) := rfl
  generalize hq1 : exL ns l (z + 1) = q1 at *
  generalize exL ns l z = q at *
  generalize dsA ns.length l z = D at *
  (repeat' (first
  | refine SP ?_
  | (apply a0g <;> intro hb <;> (try simp only [nS, nT, eq_self, reduceCtorEq] at hb) <;> (try (exfalso; omega)))
  | refine a0l ?_
  | ((first | apply a1y (hd) ); (focus (iterate 2 (all_goals (repeat' (first | exact a0c | exact trivial | refine SP ?_ | refine And.intro ?_ ?_ | refine a0b ?_ ?_ | refine a0o ?_ | exact a0i rfl rfl rfl | exact a0a _ _ | exact a0f rfl rfl rfl ))))); (try (any_goals fail)))
  ))
  refine a00 (σ := Nat) (fun x => x <= ns.length) (fun x => ⟨[(1, .ptr 2 3 0 0), (5, .ptr 5 3 0 0), (6, .sl 6 2 0 z none), (8, .ptr 7 2 0 0), (20, .val (.int .i64 ns.length)), (21, .val (.int .i64 z)), (29, .sl 8 1 0 ns.length none), (30, .val (.int .i64 ns.length)), (31, .val (.int .i64 x))], [gB l, ndB ns, .var [.val (.int .i64 ns.length), .sl 0 4 0 l.length cap, .sl 1 6 0 ns.length cap'], .fam true 58 3 1 ns.length (a3i a78 0 (rsN ns l)) none 0, peB (c67 ns l) (gpF l), .var [.sl 1 6 0 ns.length cap', .sl 3 1 0 ns.length none, .map 4], chB true q, .var [.val (.int .i64 ((exC ns l z x).1 : Int)), .val (.int .i64 (exC ns l z x).2)], iB true D]⟩) (fun x => ns.length - x) (0) ?_ ?_ ?_
  ·omega
  ·rw [hc0]
   (apply a0t [some 0, some 1, some 2, some 3, some 4, some 5, some 6, some 7, some 8]; (focus (iterate 2 (all_goals (repeat' (first | exact a0z rfl rfl rfl | exact a18 a2h rfl (fun _ _ => rfl) | exact a0x rfl | exact a0c | exact trivial | refine SP ?_ | refine And.intro ?_ ?_ | refine a0b ?_ ?_ | refine a0n ?_ | exact a0d rfl rfl | exact a0i rfl rfl rfl | exact a0a _ _ | exact a0f rfl rfl rfl | exact a06 rfl rfl rfl ))))); any_goals (apply a0h; rfl))
  rintro j hj
  by_cases hjl : j < ns.length
  ·have hzj : 0 + Int.toNat (j : Int) = j := by omega
   have ho1 := c32 ns cap' (rsN ns l) (c67 ns l) (gpF l) j hjl
   have hcj := hcl j (by omega)
   have ho2 := c32 ns cap' (rsN ns l) (c67 ns l) (gpF l) (exC ns l z j).1 hcj
   unfold aF fB at ho1 ho2
   rw [hrl] at ho1 ho2
   have hle := b0l (owD (ns.getD j nd0)) (owD (ns.getD (exC ns l z j).1 nd0)) (hF.wf _) (hF.wf _)
   have hs := hcs j
   have hDj : D.getD (0 + Int.toNat (j : Int)) 0 = D.getD j 0 := by rw [hzj]
   rw [<- hDj] at hs
   generalize hc' : exC ns l z (j + 1) = c' at *
   generalize exC ns l z j = c at *
   generalize owD (ns.getD j nd0) = o1 at *
   generalize owD (ns.getD c.1 nd0) = o2 at *
   by_cases hneg : 0 <= D.getD (0 + Int.toNat (j : Int)) 0
   ·cases hLs : a2e o1 o2
    ·rw [hLs] at hle
     rw [if_neg (by rw [hLs]; simp)] at hs
     (repeat' (first
  | refine SP ?_
  | (with_reducible refine a1k ?_)
  | (apply a0g <;> intro hb <;> (try simp only [nS, nT, eq_self, reduceCtorEq] at hb) <;> (try (exfalso; omega)))
  | refine a0u (by decide +kernel) ?_
  | refine a0l ?_
  | refine OB ?_
  | ((first | apply a0s [some 1, some 3, some 4] (ho1)); (focus ((iterate 2 (all_goals (repeat' (first | exact a0z rfl rfl rfl | exact a18 a2h rfl (fun _ _ => rfl) | exact a0x rfl | exact a0c | exact trivial | refine SP ?_ | refine And.intro ?_ ?_ | refine a0b ?_ ?_ | refine a0o ?_ | exact a0i rfl rfl rfl | exact a0a _ _ | exact a0f rfl rfl rfl | refine a0r ?_ )))); done)); (any_goals (first | (apply a0v; rfl) )))
  | ((first | apply a0s [some 1, some 3, some 4] (ho2)); (focus ((iterate 2 (all_goals (repeat' (first | exact a0z rfl rfl rfl | exact a18 a2h rfl (fun _ _ => rfl) | exact a0x rfl | exact a0c | exact trivial | refine SP ?_ | refine And.intro ?_ ?_ | refine a0b ?_ ?_ | refine a0o ?_ | exact a0i rfl rfl rfl | exact a0a _ _ | exact a0f rfl rfl rfl )))); done)); (any_goals (first | (apply a0v; rfl) )))
  | ((first | apply a1o (hle)); (focus ((iterate 2 (all_goals (repeat' (first | exact a0c | refine a0b ?_ ?_ | refine a0o ?_ | exact a0a _ _ )))); done)))
  | (apply a0m (Subtype.mk (j + 1) (by first | omega | (simp only; omega))); (focus (rw [hc', hs]; apply a0t [some 0, some 1, some 2, some 3, some 4, some 5, some 6, some 7, some 8]; (focus (iterate 2 (all_goals (repeat' (first | exact a0z rfl rfl rfl | exact a18 a2h rfl (fun _ _ => rfl) | exact a0x rfl | exact a0c | exact trivial | refine SP ?_ | refine And.intro ?_ ?_ | refine a0b ?_ ?_ | refine a0n ?_ | exact a0d rfl rfl | exact a0i rfl rfl rfl | exact a0a _ _ | exact a0f rfl rfl rfl | ((refine a0r ?_); first | with_reducible rfl | omega | ((try simp only [wS]); omega) | rfl) ))))); any_goals (apply a0h; rfl))); (all_goals (try (first | (simp only; omega)))))
  ))
    ·rw [hLs] at hle
     rw [if_pos ⟨hneg, hLs⟩] at hs
     (repeat' (first
  | refine SP ?_
  | (with_reducible refine a4m ?_)
  | (apply a0g <;> intro hb <;> (try simp only [nS, nT, eq_self, reduceCtorEq] at hb) <;> (try (exfalso; omega)))
  | refine a0u (by decide +kernel) ?_
  | refine a0l ?_
  | refine OB ?_
  | ((first | apply a0s [some 1, some 3, some 4] (ho1)); (focus ((iterate 2 (all_goals (repeat' (first | exact a0z rfl rfl rfl | exact a18 a2h rfl (fun _ _ => rfl) | exact a0x rfl | exact a0c | exact trivial | refine SP ?_ | refine And.intro ?_ ?_ | refine a0b ?_ ?_ | refine a0o ?_ | exact a0i rfl rfl rfl | exact a0a _ _ | exact a0f rfl rfl rfl | refine a0r ?_ )))); done)); (any_goals (first | (apply a0v; rfl) )))
  | ((first | apply a0s [some 1, some 3, some 4] (ho2)); (focus ((iterate 2 (all_goals (repeat' (first | exact a0z rfl rfl rfl | exact a18 a2h rfl (fun _ _ => rfl) | exact a0x rfl | exact a0c | exact trivial | refine SP ?_ | refine And.intro ?_ ?_ | refine a0b ?_ ?_ | refine a0o ?_ | exact a0i rfl rfl rfl | exact a0a _ _ | exact a0f rfl rfl rfl )))); done)); (any_goals (first | (apply a0v; rfl) )))
  | ((first | apply a1o (hle)); (focus ((iterate 2 (all_goals (repeat' (first | exact a0c | refine a0b ?_ ?_ | refine a0o ?_ | exact a0a _ _ )))); done)))
  | (apply a0m (Subtype.mk (j + 1) (by first | omega | (simp only; omega))); (focus (rw [hc', hs]; apply a0t [some 0, some 1, some 2, some 3, some 4, some 5, some 6, some 7, some 8]; (focus (iterate 2 (all_goals (repeat' (first | exact a0z rfl rfl rfl | exact a18 a2h rfl (fun _ _ => rfl) | exact a0x rfl | exact a0c | exact trivial | refine SP ?_ | refine And.intro ?_ ?_ | refine a0b ?_ ?_ | refine a0n ?_ | exact a0d rfl rfl | exact a0i rfl rfl rfl | exact a0a _ _ | exact a0f rfl rfl rfl | ((refine a0r ?_); first | with_reducible rfl | omega | ((try simp only [wS]); omega) | rfl) ))))); any_goals (apply a0h; rfl))); (all_goals (try (first | (simp only; omega)))))
  ))
   ·rw [if_neg (fun h => hneg h.1)] at hs
    (repeat' (first
  | refine SP ?_
  | (apply a0g <;> intro hb <;> (try simp only [nS, nT, eq_self, reduceCtorEq] at hb) <;> (try (exfalso; omega)))
  | refine a0u (by decide +kernel) ?_
  | refine a0l ?_
  | refine OB ?_
  | (apply a0m (Subtype.mk (j + 1) (by first | omega | (simp only; omega))); (focus (rw [hc', hs]; apply a0t [some 0, some 1, some 2, some 3, some 4, some 5, some 6, some 7, some 8]; (focus (iterate 2 (all_goals (repeat' (first | exact a0z rfl rfl rfl | exact a18 a2h rfl (fun _ _ => rfl) | exact a0x rfl | exact a0c | exact trivial | refine SP ?_ | refine And.intro ?_ ?_ | refine a0b ?_ ?_ | refine a0n ?_ | exact a0d rfl rfl | exact a0i rfl rfl rfl | exact a0a _ _ | exact a0f rfl rfl rfl | ((refine a0r ?_); first | with_reducible rfl | omega | ((try simp only [wS]); omega) | rfl) ))))); any_goals (apply a0h; rfl))); (all_goals (try (first | (simp only; omega)))))
  ))
  ·obtain rfl : j = ns.length := by omega
   (repeat' (first
  | refine SP ?_
  | (apply a0g <;> intro hb <;> (try simp only [nS, nT, eq_self, reduceCtorEq] at hb) <;> (try (exfalso; omega)))
  | refine OB ?_
  | (apply a0m (Subtype.mk (z + 1) (by first | omega | (simp only; omega))); (focus (rw [hq1, hsx]; apply a0t [some 0, some 1, some 2, some 3, some 4, some 5, some _]; (focus (iterate 2 (all_goals (repeat' (first | exact a0z rfl rfl rfl | exact a18 a2h rfl (fun _ _ => rfl) | exact a0x rfl | exact a0c | exact trivial | refine SP ?_ | refine And.intro ?_ ?_ | refine a0b ?_ ?_ | refine a0n ?_ | exact a0d rfl rfl | exact a0i rfl rfl rfl | exact a0a _ _ | exact a0f rfl rfl rfl | ((first | refine a0r ?_ | show (_ : Nat) = _); first | with_reducible rfl | omega | ((try simp only [wS]); omega) | rfl) | apply a1l | refine a0y ?_ ?_ | exact a2o | with_reducible rfl | refine a0r ?_ ))))); any_goals (apply a0h; rfl))); (all_goals (try (first | (simp only; omega)))))
  ))
 ·obtain rfl : z = ns.length := by omega
  (repeat' (first
  | refine SP ?_
  | (apply a0g <;> intro hb <;> (try simp only [nS, nT, eq_self, reduceCtorEq] at hb) <;> (try (exfalso; omega)))
  | (apply a04 [some 0, some 1, some 6]; (focus (iterate 2 (all_goals (repeat' (first | exact a0c | exact trivial | refine SP ?_ | refine And.intro ?_ ?_ | refine a0b ?_ ?_ | refine a3m ?_ | exact a0i rfl rfl rfl | exact a0a _ _ | exact a0f rfl rfl rfl ))))); any_goals (apply a0h; rfl))
  ))
end Go.Vx.L42
set_option maxRecDepth 100000
namespace Go.Vx.L42
open Go Go.Proofs
variable {ns : List Nd} {l : List Ed}
theorem a7j (hN : NOK ns l) {i : Nat} (hi : i < ns.length) : IsD ns.length l i (dsA ns.length l i) := by
 obtain ⟨hc, hn, hq⟩ := hN.parts
 obtain ⟨m', hmm, hmb, hl64, hed⟩ := a6g hc
 obtain rfl : ns.length = m' := by omega
 unfold dsA
 rw [if_pos (b4k hc (by omega) (by omega)), Int.toNat_natCast, Int.toNat_natCast]
 exact (c37 hed hmb.2 hi).1
theorem b7z (hN : NOK ns l) {e : Ed} (he : e ∈ l) {x : Nat} {y : Nat} (h : c4l e x (y : Int)) : ∃ p q, (a08 ns l).pe x p = some (y, q) := by
 obtain ⟨hc, hn, hq⟩ := hN.parts
 obtain ⟨_, _, h3⟩ := a65 hc
 obtain ⟨p1, p2⟩ := a5k l (a5m hc) e he
 have hr := h3 e he
 simp only [b1c, decide_eq_true_eq] at hr
 rcases h with ⟨h1, h2⟩ | ⟨h1, h2⟩
 ·refine ⟨e.pa.toNat, e.pb.toNat, ?_⟩
  have hx : (x : Int) < ns.length := by omega
  have hp : ((e.pa.toNat : Nat) : Int) = e.pa := by omega
  simp only [a08]
  rw [hp, <- h1, a4j hc (by omega) (by omega), p1, if_pos rfl, <- h2, Int.toNat_natCast]
 ·refine ⟨e.pb.toNat, e.pa.toNat, ?_⟩
  have hp : ((e.pb.toNat : Nat) : Int) = e.pb := by omega
  simp only [a08]
  rw [hp, <- h1, a4j hc (by omega) (by omega), p2, if_pos rfl, <- h2, Int.toNat_natCast]
theorem b8t (hN : NOK ns l) {x p y q : Nat} (h : (a08 ns l).pe x p = some (y, q)) : Adj l x (y : Int) := by
 obtain ⟨hc, hn, hq⟩ := hN.parts
 obtain ⟨⟨hx, hy⟩, _⟩ := (a79 hN).pe_ok x p y q h
 have hx : x < ns.length := hx
 simp only [a08] at h
 split at h
 ·rename_i hk
  simp only [Option.some.injEq, Prod.mk.injEq] at h
  obtain ⟨y', q', h4, h5, _⟩ := a5r hc hx hk
  rw [h4] at h
  simp only [Int.toNat_natCast] at h
  obtain ⟨rfl, _⟩ := h
  rw [a4j hc (by omega) (by omega)] at h4 hk
  obtain ⟨e, he, ⟨h1, h2⟩ | ⟨h1, h2⟩⟩ := (a7s _ _ l).1 hk
  ·obtain ⟨p1, _⟩ := a5k l (a5m hc) e he
   rw [<- h1, <- h2, p1] at h4
   exact ⟨e, he, .inl ⟨h1, (Prod.mk.inj h4).1.symm⟩⟩
  ·obtain ⟨_, p2⟩ := a5k l (a5m hc) e he
   rw [<- h1, <- h2, p2] at h4
   exact ⟨e, he, .inr ⟨h1, (Prod.mk.inj h4).1.symm⟩⟩
 ·cases h
theorem b4g (hN : NOK ns l) {i j : Nat} (hi : i < ns.length) (hj : j < ns.length) : ∀ (k x : Nat), x < ns.length -> dsN ns l j x = k -> 0 <= dsN ns l i x -> 0 <= dsN ns l i j
 | k, x, hx, hk, h0 => by
  have hDi := a7j hN hi
  have hDj := a7j hN hj
  rcases hDj.back x hx (by show 0 <= dsN ns l j x; omega) with rfl | ⟨y, hy, hA, h1, h2⟩
  ·exact h0
  ·match k with
   | 0 => exact absurd hk (by show ¬ (dsA ns.length l j).getD x 0 = _; omega)
   | k + 1 =>
    have h3 := hDi.edge x hx y hy hA h0
    have hk : (dsA ns.length l j).getD x 0 = ((k + 1 : Nat) : Int) := hk
    exact b4g hN hi hj k y hy (by show (dsA ns.length l j).getD y 0 = _; omega) h3.1
theorem c76 (hN : NOK ns l) : (a08 ns l).Dst (dsN ns l) where
 low := fun i y hi hy => (a7j hN hi).low y hy
 zero := fun i hi => (a7j hN hi).zero
 zeq := fun i y hi hy h => by
  have h : (dsA ns.length l i).getD y 0 = 0 := h
  rcases (a7j hN hi).back y hy (by omega) with h1 | ⟨z, _, _, h2, h3⟩
  ·exact h1
  ·omega
 edge := fun i x p y q hi hp h0 => by
  obtain ⟨⟨hx, hy⟩, _⟩ := (a79 hN).pe_ok x p y q hp
  exact (a7j hN hi).edge x hx y hy (b8t hN hp) h0
 back := fun i x hi hx h0 => by
  have h0 : 0 < (dsA ns.length l i).getD x 0 := h0
  rcases (a7j hN hi).back x hx (by omega) with rfl | ⟨y, hy, ⟨e, he, hA⟩, h1, _⟩
  ·have := (a7j hN hi).zero; omega
  ·obtain ⟨p, q, hp⟩ := b7z hN he hA
   exact ⟨p, y, q, hp, h1⟩
 comp := fun i j x hi hj hx h1 h2 => by
  obtain ⟨k, hk⟩ := Int.eq_ofNat_of_zero_le h2
  exact b4g hN hi hj k x hx hk h1
theorem c13 (hN : NOK ns l) : ∀ i j, i < ns.length -> j < ns.length -> dsN ns l i j = dsN ns l j i := fun i j hi hj =>
 c29 (D := fun a => dsA ns.length l a) (fun a ha => a7j hN ha) i j hi hj
end Go.Vx.L42

/- Lemmas of a small executor for the model, and contracts of functions, used for the law that this claim proves. No condition. -/
import Derived.Test.YtodbfpjjahpahaaDoorBEAA
import Derived.Test.YtodbfpjjahpahaaDoorBGA
set_option linter.unusedSimpArgs false
set_option linter.unusedVariables false
set_option maxRecDepth 100000
namespace Go.Vx.L42
open Go Go.Proofs
abbrev aN (n : Int) (l : List Ed) (cap : Option Nat) (ns : List Nd) (cap' : Option Nat) : AV := .agg [.val (.int .i64 n), .sl 0 4 0 l.length cap, .sl 1 6 0 ns.length cap']
def b8e (ns : List Nd) (i : Nat) : Nat -> Bool
 | 0 => false
 | y + 1 => b8e ns i y || decide ((ns.getD y nd0).id = (ns.getD i nd0).id)
theorem b5b {ns : List Nd} {i y : Nat} (h : (ns.getD y nd0).id = (ns.getD i nd0).id) : ∀ k, y < k -> b8e ns i k = true
 | 0, hk => by omega
 | k + 1, hk => by
  unfold b8e
  by_cases e : y = k
  ·subst e; rw [decide_eq_true h, Bool.or_true]
  ·rw [b5b h k (by omega), Bool.true_or]
theorem b5v {ns : List Nd} {i : Nat} : ∀ k, b8e ns i k = false -> ∀ y, y < k -> (ns.getD y nd0).id ≠ (ns.getD i nd0).id
 | k, h, y, hy, e => by rw [b5b e k hy] at h; cases h
def qlL (c : Nd) : List Int := [c.p1, c.cl, c.ac, c.va, c.p2]
def c49 (ns : List Nd) (i : Nat) : Int := if (qlL (ns.getD i nd0)).all wrd = false then 3 else if b8e ns i i = true then 10 else if (ns.getD i nd0).cl <= 127 then 15 else 0
def c1z (ns : List Nd) : Nat -> Nat -> Int
 | 0, _ => 0
 | k + 1, i => if c49 ns i ≠ 0 then c49 ns i else c1z ns k (i + 1)
def ckE (n : Int) (l : List Ed) (ns : List Nd) : Int := if ckC n l ≠ 0 then ckC n l else if (ns.length : Int) ≠ n then 7 else c1z ns ns.length 0
set_option maxHeartbeats 4000000 in
theorem a38 (n : Int) (l : List Ed) (cap : Option Nat) (hl : l.length <= maxLen) (ns : List Nd) (cap' : Option Nat) (hn : ns.length <= maxLen) :
  Runs Tryd.prog 9 [aN n l cap ns cap'] [gB l, ndB ns] (Det (.val (.int .i64 (ckE n l ns))) [gB l, ndB ns]) := by
 have hmx : maxLen = 9223372036854775807 := by decide
 have hck := b5t n l cap hl
 by_cases hc : ckC n l = 0
 rotate_left
 ·have e : ckE n l ns = ckC n l := by unfold ckE; rw [if_pos hc]
  rw [e]
  generalize ckC n l = c at *
  refine Runs.mk a1a Tryd.call9 Tryd.func9 rfl Tryd.ntmps9 Tryd.results9 rfl ?_
  (repeat' (first
  | refine SP ?_
  | (apply a0g <;> intro hb <;> (try simp only [nS, nT, eq_self, reduceCtorEq] at hb) <;> (try (exfalso; omega)))
  | refine a0l ?_
  | ((first | apply a1y (hck) ); (focus (iterate 2 (all_goals (repeat' (first | exact a0c | exact trivial | refine SP ?_ | refine And.intro ?_ ?_ | refine a0b ?_ ?_ | refine a0o ?_ | exact a0i rfl rfl rfl | exact a0a _ _ | exact a0f rfl rfl rfl ))))); (try (any_goals fail)))
  | (apply a04 [some 0, some 1]; (focus (iterate 2 (all_goals (repeat' (first | exact trivial | refine SP ?_ | refine And.intro ?_ ?_ | exact a0a _ _ | exact a0f rfl rfl rfl ))))); any_goals (apply a0h; rfl))
  ))
 obtain ⟨m, rfl, hm, _, _⟩ := a6g hc
 rw [hc] at hck
 by_cases hlen : (ns.length : Int) = m
 rotate_left
 ·have e : ckE m l ns = 7 := by unfold ckE; rw [if_neg (by omega), if_pos hlen]
  rw [e]
  refine Runs.mk a1a Tryd.call9 Tryd.func9 rfl Tryd.ntmps9 Tryd.results9 rfl ?_
  (repeat' (first
  | refine SP ?_
  | (apply a0g <;> intro hb <;> (try simp only [nS, nT, eq_self, reduceCtorEq] at hb) <;> (try (exfalso; omega)))
  | refine a0l ?_
  | ((first | apply a1y (hck) ); (focus (iterate 2 (all_goals (repeat' (first | exact a0c | exact trivial | refine SP ?_ | refine And.intro ?_ ?_ | refine a0b ?_ ?_ | refine a0o ?_ | exact a0i rfl rfl rfl | exact a0a _ _ | exact a0f rfl rfl rfl ))))); (try (any_goals fail)))
  | (apply a04 [some 0, some 1]; (focus (iterate 2 (all_goals (repeat' (first | exact trivial | refine SP ?_ | refine And.intro ?_ ?_ | exact a0a _ _ | exact a0f rfl rfl rfl ))))); any_goals (apply a0h; rfl))
  ))
 have e : ckE m l ns = c1z ns ns.length 0 := by unfold ckE; rw [if_neg (by omega), if_neg (by omega)]
 rw [e]
 clear e
 refine Runs.mk a1a Tryd.call9 Tryd.func9 rfl Tryd.ntmps9 Tryd.results9 rfl ?_
 (repeat' (first
  | refine SP ?_
  | (apply a0g <;> intro hb <;> (try simp only [nS, nT, eq_self, reduceCtorEq] at hb) <;> (try (exfalso; omega)))
  | refine a0l ?_
  | ((first | apply a1y (hck) ); (focus (iterate 2 (all_goals (repeat' (first | exact a0c | exact trivial | refine SP ?_ | refine And.intro ?_ ?_ | refine a0b ?_ ?_ | refine a0o ?_ | exact a0i rfl rfl rfl | exact a0a _ _ | exact a0f rfl rfl rfl ))))); (try (any_goals fail)))
  ))
 refine a00 (σ := Nat) (fun x => x <= ns.length /\ c1z ns (ns.length - x) x = c1z ns ns.length 0) (fun x => ⟨[(1, .ptr 2 3 0 0), (23, .sl 1 6 0 ns.length cap'), (24, .val (.int .i64 ns.length)), (25, .val (.int .i64 x))], [gB l, ndB ns, .var [.val (.int .i64 m), .sl 0 4 0 l.length cap, .sl 1 6 0 ns.length cap']]⟩) (fun x => ns.length - x) (0) ?_ ?_ ?_
 ·exact ⟨by omega, rfl⟩
 ·(apply a0t [some 0, some 1, some 2]; (focus (iterate 2 (all_goals (repeat' (first | exact a0c | exact trivial | refine SP ?_ | refine And.intro ?_ ?_ | refine a0b ?_ ?_ | refine a0n ?_ | exact a0d rfl rfl | exact a0i rfl rfl rfl | exact a0a _ _ | exact a0f rfl rfl rfl ))))); any_goals (apply a0h; rfl))
 rintro i ⟨hi, hie⟩
 by_cases hil : i < ns.length
 ·have hz : 0 + Int.toNat (i : Int) = i := by omega
  rw [show ns.length - i = (ns.length - (i + 1)) + 1 by omega, c1z] at hie
  have hwo := c27 (qlL (ns.getD (0 + Int.toNat (i : Int)) nd0)) (some 5) (by simp [qlL])
  have hcn : c49 ns i = if (qlL (ns.getD (0 + Int.toNat (i : Int)) nd0)).all wrd = false then 3 else if b8e ns i i = true then 10 else if (ns.getD (0 + Int.toNat (i : Int)) nd0).cl <= 127 then 15 else 0 := by rw [hz]; rfl
  cases hw : (qlL (ns.getD (0 + Int.toNat (i : Int)) nd0)).all wrd
  ·rw [hw] at hwo
   rw [hw, if_pos rfl] at hcn
   rw [hcn, if_pos (by decide)] at hie
   rw [<- hie]
   (repeat' (first
  | refine SP ?_
  | (apply a0g <;> intro hb <;> (try simp only [nS, nT, eq_self, reduceCtorEq] at hb) <;> (try (exfalso; omega)))
  | refine a0l ?_
  | refine OB ?_
  | ((first | apply a1y (hwo) ); (focus (iterate 2 (all_goals (repeat' (first | exact a0c | exact trivial | refine SP ?_ | refine And.intro ?_ ?_ | refine a0b ?_ ?_ | exact a0i rfl rfl rfl | exact a0a _ _ | refine a0y ?_ ?_ | exact a2o | (apply a4e rfl; (focus (refine a0y ?_ ?_))) ))))); (try (any_goals fail)))
  | (apply a04 [some 0, some 1]; (focus (iterate 2 (all_goals (repeat' (first | exact trivial | refine SP ?_ | refine And.intro ?_ ?_ | exact a0a _ _ | exact a0f rfl rfl rfl ))))); any_goals (apply a0h; rfl))
  ))
  ·rw [hw] at hwo
   rw [hw, if_neg (by simp)] at hcn
   (repeat' (first
  | refine SP ?_
  | (apply a0g <;> intro hb <;> (try simp only [nS, nT, eq_self, reduceCtorEq] at hb) <;> (try (exfalso; omega)))
  | refine a0l ?_
  | refine OB ?_
  | ((first | apply a1y (hwo) ); (focus (iterate 2 (all_goals (repeat' (first | exact a0c | exact trivial | refine SP ?_ | refine And.intro ?_ ?_ | refine a0b ?_ ?_ | exact a0i rfl rfl rfl | exact a0a _ _ | refine a0y ?_ ?_ | exact a2o | (apply a4e rfl; (focus (refine a0y ?_ ?_))) ))))); (try (any_goals fail)))
  ))
   refine a00 (σ := Nat) (fun x => x <= i /\ b8e ns i x = false) (fun x => ⟨[(1, .ptr 2 3 0 0), (5, .ptr 3 6 0 0), (6, .ptr 4 5 0 0), (23, .sl 1 6 0 ns.length cap'), (24, .val (.int .i64 ns.length)), (25, .val (.int .i64 i)), (48, .sl 1 6 0 i (Option.map (fun x => x - Int.toNat 0) cap')), (49, .val (.int .i64 i)), (50, .val (.int .i64 x))], [gB l, ndB ns, .var [.val (.int .i64 m), .sl 0 4 0 l.length cap, .sl 1 6 0 ns.length cap'], .var (ndC (ns.getD (0 + Int.toNat (i : Int)) nd0)), .var [.val (.int .i64 (ns.getD (0 + Int.toNat (i : Int)) nd0).p1), .val (.int .i64 (ns.getD (0 + Int.toNat (i : Int)) nd0).cl), .val (.int .i64 (ns.getD (0 + Int.toNat (i : Int)) nd0).ac), .val (.int .i64 (ns.getD (0 + Int.toNat (i : Int)) nd0).va), .val (.int .i64 (ns.getD (0 + Int.toNat (i : Int)) nd0).p2)]]⟩) (fun x => i - x) (0) ?_ ?_ ?_
   ·exact ⟨by omega, rfl⟩
   ·(apply a0t [some 0, some 1, some 2, some 3, some 4]; (focus (iterate 2 (all_goals (repeat' (first | exact a0c | exact trivial | refine SP ?_ | refine And.intro ?_ ?_ | refine a0b ?_ ?_ | refine a0n ?_ | exact a0d rfl rfl | exact a0i rfl rfl rfl | exact a0a _ _ | exact a0f rfl rfl rfl ))))); any_goals (apply a0h; rfl))
   rintro y ⟨hy, hye⟩
   by_cases hyi : y < i
   ·have hzy : 0 + Int.toNat (y : Int) = y := by omega
    by_cases hd : (ns.getD (0 + Int.toNat (y : Int)) nd0).id = (ns.getD (0 + Int.toNat (i : Int)) nd0).id
    ·have hdu : b8e ns i i = true := b5b (by rw [hzy, hz] at hd; exact hd) i hyi
     rw [hdu, if_pos rfl] at hcn
     rw [hcn, if_pos (by decide)] at hie
     rw [<- hie]
     (repeat' (first
  | refine SP ?_
  | (apply a0g <;> intro hb <;> (try simp only [nS, nT, eq_self, reduceCtorEq] at hb) <;> (try (exfalso; omega)))
  | refine a0l ?_
  | refine OB ?_
  | (apply a04 [some 0, some 1]; (focus (iterate 2 (all_goals (repeat' (first | exact trivial | refine SP ?_ | refine And.intro ?_ ?_ | exact a0a _ _ | exact a0f rfl rfl rfl ))))); any_goals (apply a0h; rfl))
  ))
    ·have hdu : b8e ns i (y + 1) = false := by
      unfold b8e; rw [hye, decide_eq_false (by rw [hzy, hz] at hd; exact hd)]; rfl
     (repeat' (first
  | refine SP ?_
  | (apply a0g <;> intro hb <;> (try simp only [nS, nT, eq_self, reduceCtorEq] at hb) <;> (try (exfalso; omega)))
  | refine a0l ?_
  | refine OB ?_
  | (apply a0m (Subtype.mk (y + 1) ⟨by omega, hdu⟩); (focus (apply a0t [some 0, some 1, some 2, some 3, some 4]; (focus (iterate 2 (all_goals (repeat' (first | exact a0c | exact trivial | refine SP ?_ | refine And.intro ?_ ?_ | refine a0b ?_ ?_ | refine a0n ?_ | exact a0d rfl rfl | exact a0i rfl rfl rfl | exact a0a _ _ | exact a0f rfl rfl rfl | ((refine a0r ?_); first | with_reducible rfl | omega | ((try simp only [wS]); omega) | rfl) ))))); any_goals (apply a0h; rfl))); (all_goals (try (first | (simp only; omega)))))
  ))
   ·obtain rfl : y = i := by omega
    rw [hye, if_neg (by simp)] at hcn
    by_cases hcl : (ns.getD (0 + Int.toNat (y : Int)) nd0).cl <= 127
    ·rw [if_pos hcl] at hcn
     rw [hcn, if_pos (by decide)] at hie
     rw [<- hie]
     (repeat' (first
  | refine SP ?_
  | (apply a0g <;> intro hb <;> (try simp only [nS, nT, eq_self, reduceCtorEq] at hb) <;> (try (exfalso; omega)))
  | (apply a04 [some 0, some 1]; (focus (iterate 2 (all_goals (repeat' (first | exact trivial | refine SP ?_ | refine And.intro ?_ ?_ | exact a0a _ _ | exact a0f rfl rfl rfl ))))); any_goals (apply a0h; rfl))
  ))
    ·rw [if_neg hcl] at hcn
     rw [hcn, if_neg (by decide)] at hie
     (repeat' (first
  | refine SP ?_
  | (apply a0g <;> intro hb <;> (try simp only [nS, nT, eq_self, reduceCtorEq] at hb) <;> (try (exfalso; omega)))
  | (apply a0m (Subtype.mk (y + 1) ⟨by omega, hie⟩); (focus (apply a0t [some 0, some 1, some 2]; (focus (iterate 2 (all_goals (repeat' (first | exact a0c | exact trivial | refine SP ?_ | refine And.intro ?_ ?_ | refine a0b ?_ ?_ | refine a0n ?_ | exact a0d rfl rfl | exact a0i rfl rfl rfl | exact a0a _ _ | exact a0f rfl rfl rfl | ((refine a0r ?_); first | with_reducible rfl | omega | ((try simp only [wS]); omega) | rfl) ))))); any_goals (apply a0h; rfl))); (all_goals (try (first | (simp only; omega)))))
  ))
 ·have hx' : i = ns.length := by omega
  subst hx'
  rw [Nat.sub_self, c1z] at hie
  rw [<- hie]
  (repeat' (first
  | refine SP ?_
  | (apply a0g <;> intro hb <;> (try simp only [nS, nT, eq_self, reduceCtorEq] at hb) <;> (try (exfalso; omega)))
  | (apply a04 [some 0, some 1]; (focus (iterate 2 (all_goals (repeat' (first | exact trivial | refine SP ?_ | refine And.intro ?_ ?_ | exact a0a _ _ | exact a0f rfl rfl rfl ))))); any_goals (apply a0h; rfl))
  ))
end Go.Vx.L42

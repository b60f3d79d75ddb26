/- Lemmas of a small executor for the model, and contracts of functions, used for the law that this claim proves. No condition. -/
import Derived.Test.YtodbfpjjahpahaaDoorBE0
import Derived.Test.YtodbfpjjahpahaaDoorBGBA
set_option linter.unusedSimpArgs false
set_option linter.unusedVariables false
set_option maxRecDepth 100000
namespace Go.Vx.L42
open Go Go.Proofs
theorem c2r {own : DS} {ps : List (Option DS)} {x : Nat} (h : a7t own ps x = 6) : b75 own ps = a3g ps x := by
 unfold a7t at h
 by_cases hs : a5l own ps = true
 ·rw [if_pos hs] at h; cases h
 ·rw [if_neg hs] at h
  by_cases hb : (x : Int) = a56 ps
  ·unfold b75; rw [if_neg hs, <- hb, Int.toNat_natCast]
  ·rw [if_neg hb] at h
   split at h <;> cases h
theorem b8l {own : DS} {ps : List (Option DS)} (h : ∀ y, y < ps.length -> a7t own ps y ≠ 6) : b75 own ps = own := by
 unfold b75
 by_cases hs : a5l own ps = true
 ·rw [if_pos hs]
 ·exfalso
  have hs' := hs
  unfold a5l at hs'
  rw [Bool.or_eq_true, decide_eq_true_eq] at hs'
  obtain ⟨b0, b1⟩ := b9t ps ps.length
  rw [show bst ps ps.length = a56 ps from rfl] at b0 b1
  have hb : ¬ a56 ps < 0 := fun e => hs' (.inl e)
  refine h (a56 ps).toNat (by omega) ?_
  unfold a7t
  rw [if_neg hs, if_pos (by omega)]
set_option maxHeartbeats 2000000 in
theorem c0v (own : DS) (ps : List (Option DS)) (cap : Option Nat) (hn : ps.length <= 8) (hw : wfP ps) (ho : wfD own) (hcl : 127 < own.cl) :
  Runs Tryd.prog 41 [aD own, .sl 0 12 0 ps.length cap] [pB ps] (Det (aD (b75 own ps)) [pB ps]) := by
 have hde := b3g own ps cap hn hw ho hcl
 have hcl2 : (b5y own ps).length = ps.length := a7x own ps ps.length
 refine Runs.mk a1a Tryd.call41 Tryd.func41 rfl Tryd.ntmps41 Tryd.results41 rfl ?_
 (repeat' (first
  | refine SP ?_
  | (apply a0g <;> intro hb <;> (try simp only [nS, nT, eq_self, reduceCtorEq] at hb) <;> (try (exfalso; fail; done)))
  | refine a0l ?_
  | ((first | apply a1y (hde) ); (focus (iterate 2 (all_goals (repeat' (first | exact a0c | exact trivial | refine SP ?_ | refine And.intro ?_ ?_ | refine a0b ?_ ?_ | refine a0o ?_ | exact a0i rfl rfl rfl | exact a0a _ _ | exact a0f rfl rfl rfl ))))); (try (any_goals fail)))
  ))
 refine a00 (σ := Nat) (fun x => x <= ps.length /\ ∀ y, y < x -> a7t own ps y ≠ 6) (fun x => ⟨[(1, .sl 0 12 0 ps.length cap), (2, .ptr 1 11 0 0), (4, .ptr 2 11 0 0), (18, .sl 3 1 0 ps.length none), (19, .val (.int .i64 ps.length)), (20, .val (.int .i64 x))], [pB ps, .var (dC own), .var (dC default), iB true (b5y own ps)]⟩) (fun x => ps.length - x) (0) ?_ ?_ ?_
 ·exact ⟨by omega, fun y h => by omega⟩
 ·(apply a0t [some 0, some 1, some 2, some 3]; (focus (iterate 2 (all_goals (repeat' (first | exact a0c | exact trivial | refine SP ?_ | refine And.intro ?_ ?_ | refine a0b ?_ ?_ | refine a0n ?_ | exact a0d rfl rfl | exact a0i rfl rfl rfl | exact a0a _ _ | exact a0f rfl rfl rfl | exact a06 rfl rfl rfl ))))); any_goals (apply a0h; rfl))
 rintro x ⟨hx, hxe⟩
 by_cases hxl : x < ps.length
 ·have hz : 0 + Int.toNat (x : Int) = x := by omega
  have hg : (b5y own ps).getD (0 + Int.toNat (x : Int)) 0 = a7t own ps x := by rw [hz]; exact a9j own ps _ _ hxl
  by_cases h6 : a7t own ps x = 6
  ·have hf := c2r h6
   rw [<- hz] at hf
   rw [h6] at hg
   rw [hf]
   generalize b5y own ps = C at *
   (repeat' (first
  | refine SP ?_
  | (apply a0g <;> intro hb <;> (try simp only [nS, nT, eq_self, reduceCtorEq] at hb) <;> (try (exfalso; omega)))
  | refine a0l ?_
  | refine OB ?_
  | (apply a04 [some 0]; (focus (iterate 2 (all_goals (repeat' (first | exact a0c | exact trivial | refine SP ?_ | refine And.intro ?_ ?_ | refine a0b ?_ ?_ | refine a0o ?_ | exact a0a _ _ | exact a0f rfl rfl rfl ))))); any_goals (apply a0h; rfl))
  ))
  ·have hxe' : ∀ y, y < x + 1 -> a7t own ps y ≠ 6 := fun y hy => by
    by_cases h : y = x
    ·rw [h]; exact h6
    ·exact hxe y (by omega)
   rw [<- hg] at h6
   generalize b5y own ps = C at *
   (repeat' (first
  | refine SP ?_
  | (apply a0g <;> intro hb <;> (try simp only [nS, nT, eq_self, reduceCtorEq] at hb) <;> (try (exfalso; omega)))
  | refine a0l ?_
  | refine OB ?_
  | (apply a0m (Subtype.mk (x + 1) ⟨by omega, hxe'⟩); (focus (apply a0t [some 0, some 1, some 2, some 3]; (focus (iterate 2 (all_goals (repeat' (first | exact a0c | exact trivial | refine SP ?_ | refine And.intro ?_ ?_ | refine a0b ?_ ?_ | refine a0n ?_ | exact a0d rfl rfl | exact a0i rfl rfl rfl | exact a0a _ _ | exact a0f rfl rfl rfl | ((refine a0r ?_); first | with_reducible rfl | omega | ((try simp only [wS]); omega) | rfl) ))))); any_goals (apply a0h; rfl))); (all_goals (try (first | (simp only; omega)))))
  ))
 ·have hx' : x = ps.length := by omega
  subst hx'
  rw [b8l hxe]
  (repeat' (first
  | refine SP ?_
  | (apply a0g <;> intro hb <;> (try simp only [nS, nT, eq_self, reduceCtorEq] at hb) <;> (try (exfalso; omega)))
  | (apply a04 [some 0]; (focus (iterate 2 (all_goals (repeat' (first | exact a0c | exact trivial | refine SP ?_ | refine And.intro ?_ ?_ | refine a0b ?_ ?_ | refine a0o ?_ | exact a0a _ _ | exact a0f rfl rfl rfl ))))); any_goals (apply a0h; rfl))
  ))
structure Nd where
 id : Int
 p1 : Int
 cl : Int
 ac : Int
 va : Int
 p2 : Int
 deriving DecidableEq, Inhabited
def ndC (c : Nd) : List AV := [.val (.int .u64 c.id), .val (.int .i64 c.p1), .val (.int .i64 c.cl), .val (.int .i64 c.ac), .val (.int .i64 c.va), .val (.int .i64 c.p2)]
instance : FlatC ndC := ⟨fun x v h => by simp [ndC] at h; rcases h with rfl | rfl | rfl | rfl | rfl | rfl <;> trivial⟩
abbrev nd0 : Nd := ⟨0, 0, 0, 0, 0, 0⟩
abbrev ndF (l : List Nd) : Nat -> Nat -> AV := a2x ndC nd0 l
abbrev ndB (l : List Nd) : Blk := .arr false 32 6 l.length (ndF l)
def owD (c : Nd) : DS := ⟨c.p1, c.cl, c.ac, c.va, c.p2, c.id, 0, c.id, 0, c.id, 0⟩
theorem b5p (c : Nd) : Runs Tryd.prog 52 [.agg [.val (.int .i64 c.p1), .val (.int .i64 c.cl), .val (.int .i64 c.ac), .val (.int .i64 c.va), .val (.int .i64 c.p2)], .val (.int .u64 c.id)] [] (Det (aD (owD c)) []) := by
 refine Runs.mk a1a Tryd.call52 Tryd.func52 rfl Tryd.ntmps52 Tryd.results52 rfl ?_
 (repeat' (first
  | refine SP ?_
  | (apply a04 []; (focus (iterate 2 (all_goals (repeat' (first | exact a0c | exact trivial | refine And.intro ?_ ?_ | refine a0b ?_ ?_ | refine a0o ?_ | exact a0a _ _ ))))); any_goals (apply a0h; rfl))
  ))
def wrd (n : Int) : Bool := decide (0 <= n /\ n <= 65535)
theorem c27 (l : List Int) (cap : Option Nat) (hl : l.length <= 1000) : Runs Tryd.prog 27 [.sl 0 1 0 l.length cap] [iB false l] (Det (.sb (l.all wrd)) [iB false l]) := by
 refine Runs.mk a1a Tryd.call27 Tryd.func27 rfl Tryd.ntmps27 Tryd.results27 rfl ?_
 (repeat' (first
  | refine SP ?_
  | refine a0l ?_
  ))
 refine a00 (σ := Nat) (fun x => x <= l.length /\ (l.take x).all wrd = true) (fun x => ⟨[(5, .sl 0 1 0 l.length cap), (6, .val (.int .i64 l.length)), (7, .val (.int .i64 x))], [iB false l]⟩) (fun x => l.length - x) (0) ?_ ?_ ?_
 ·simp
 ·(apply a0t [some 0]; (focus (iterate 2 (all_goals (repeat' (first | exact trivial | refine SP ?_ | refine And.intro ?_ ?_ | exact a0i rfl rfl rfl | exact a0a _ _ | exact a0f rfl rfl rfl ))))); any_goals (apply a0h; rfl))
 rintro x ⟨hx, hxe⟩
 by_cases hxl : x < l.length
 ·have hz : 0 + Int.toNat (x : Int) = x := by omega
  have e1 : l.take (x + 1) = l.take x ++ [l.getD x 0] := by
   rw [List.getD_eq_getElem?_getD, List.getElem?_eq_getElem hxl, Option.getD_some]; exact (List.take_append_getElem hxl).symm
  cases hc : wrd (l.getD x 0)
  ·have hall : l.all wrd = false := by
    rw [List.all_eq_false]; exact ⟨_, a6r l x 0 hxl, by rw [hc]; simp⟩
   rw [hall]
   unfold wrd at hc
   rw [decide_eq_false_iff_not, <- hz] at hc
   (repeat' (first
  | refine SP ?_
  | (apply a0g <;> intro hb <;> (try simp only [nS, nT, eq_self, reduceCtorEq] at hb) <;> (try (exfalso; omega)))
  | refine a0l ?_
  | refine OB ?_
  | (apply a04 [some 0]; (focus (iterate 2 (all_goals (repeat' (first | exact trivial | refine SP ?_ | refine And.intro ?_ ?_ | exact a1b rfl | exact a0f rfl rfl rfl ))))); any_goals (apply a0h; rfl))
  ))
  ·have hxe' : (l.take (x + 1)).all wrd = true := by rw [e1, List.all_append, hxe, List.all_cons, hc]; rfl
   unfold wrd at hc
   rw [decide_eq_true_eq, <- hz] at hc
   (repeat' (first
  | refine SP ?_
  | (apply a0g <;> intro hb <;> (try simp only [nS, nT, eq_self, reduceCtorEq] at hb) <;> (try (exfalso; omega)))
  | refine a0l ?_
  | refine OB ?_
  | (apply a0m (Subtype.mk (x + 1) ⟨by omega, hxe'⟩); (focus (apply a0t [some 0]; (focus (iterate 2 (all_goals (repeat' (first | exact trivial | refine SP ?_ | refine And.intro ?_ ?_ | exact a0i rfl rfl rfl | exact a0a _ _ | exact a0f rfl rfl rfl | ((refine a0r ?_); first | with_reducible rfl | omega | ((try simp only [wS]); omega) | rfl) ))))); any_goals (apply a0h; rfl))); (all_goals (try (first | (simp only; omega)))))
  ))
 ·rw [List.take_of_length_le (by omega)] at hxe
  rw [hxe]
  (repeat' (first
  | refine SP ?_
  | (apply a0g <;> intro hb <;> (try simp only [nS, nT, eq_self, reduceCtorEq] at hb) <;> (try (exfalso; omega)))
  | (apply a04 [some 0]; (focus (iterate 2 (all_goals (repeat' (first | exact trivial | refine SP ?_ | refine And.intro ?_ ?_ | exact a1b rfl | exact a0f rfl rfl rfl ))))); any_goals (apply a0h; rfl))
  ))
end Go.Vx.L42

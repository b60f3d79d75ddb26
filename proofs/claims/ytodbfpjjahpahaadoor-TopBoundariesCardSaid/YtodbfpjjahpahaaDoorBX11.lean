/- Lemmas of a small executor for the model, and contracts of functions, used for the law that this claim proves. No condition. -/
import Derived.Test.YtodbfpjjahpahaaDoorBX9
set_option linter.unusedSimpArgs false
set_option linter.unusedVariables false
set_option maxRecDepth 100000
namespace Go.Vx.L42.B
open Go Go.Proofs Go.Vx.L42
theorem a5d (c : CS) : Runs Tryd.prog 13 [.ptr 0 24 0 0] [.obj (a1h c)] (Det (aD c.fol) [.obj (a1h c)]) := by
 rw [a5x]
 refine Runs.mkObj a1a Tryd.call13 Tryd.func13 rfl Tryd.ntmps13 Tryd.results13 rfl rfl ?_
 (repeat' (first
  | refine SP ?_
  | (with_reducible refine a1k ?_)
  | refine a0l ?_
  | (apply a1q 0 [some 1, some 2, some 3, some 4, some 5, some 6, some 7, some 8, some 9, some 10, some 11, some 12, some 13, some 14, some 15, some 16, some 17] [] rfl; (focus (iterate 2 (all_goals (repeat' (first | exact a0q | exact a0e rfl | exact a3f rfl rfl rfl rfl rfl rfl rfl rfl | exact a0x rfl | exact a0c | exact trivial | refine SP ?_ | refine And.intro ?_ ?_ | refine a0b ?_ ?_ | refine a0o ?_ | refine a0n ?_ | exact a0d rfl rfl | exact a0a _ _ ))))); (any_goals rfl))
  ))
def b26 {α : Type} (f : Nat -> α) (i : Nat) (v : α) : Nat -> α := fun j => bif Nat.beq j i then v else f j
def a8z (c : CS) (i : Nat) (m : MG) (at' : Int) : CS := if m.d.gm = c.nd.id then c else { c with last := at', mrk := b26 c.mrk i at', rl := b26 c.rl i at', rc := b26 c.rc i (hrF (c.rc i) (mgD m c.nd.id (i + 1)) at') }
set_option maxHeartbeats 16000000 in
theorem a8j (c : CS) (i : Nat) (hi : i < 8) (m : MG) (at' : Int) (hm : wfMG m) (ha : 0 <= at' /\ at' <= 1000000000 /\ c.last <= at') (hrl : 0 <= c.rl i /\ c.rl i <= at') (hne : m.id ≠ c.nd.id) (hok : b49 (c.rc i)) (ho : ∀ d0 ts, c.rc i = some (d0, ts) -> d0.se = m.id /\ d0.sp = m.port) (hst : 4 <= c.st i) :
  Runs Tryd.prog 36 [.ptr 0 24 0 0, .val (.int .i64 ((i : Int) + 1)), aMG m, .val (.int .i64 at')] [.obj (a1h c)] (Det .dead [.obj (a1h (a8z c i m at'))]) := by
 have hw := b97 c.nd c.fol c.last at' ha
 have hof := c8y m hm c.nd.id ((i : Int) + 1)
 have hH := c6g (c.rl i) at' (c.rc i) (mgD m c.nd.id (i + 1)) ⟨hrl.1, hrl.2, ha.1, ha.2.1⟩ hok hne hm.st.2 ho
 have hgm : (mgD m c.nd.id ((i : Int) + 1)).gm = m.d.gm := rfl
 have hse : (mgD m c.nd.id ((i : Int) + 1)).se = m.id := rfl
 have hre : (mgD m c.nd.id ((i : Int) + 1)).re = c.nd.id := rfl
 have hmst := hm.st
 clear hm ho hok
 by_cases hg : m.d.gm = c.nd.id
 ·have e : a8z c i m at' = c := if_pos hg
  rw [e, a5x]
  rw [hg] at hgm
  generalize mgD m c.nd.id ((i : Int) + 1) = d at *
  clear hH e
  rcases lt8 hi with rfl | rfl | rfl | rfl | rfl | rfl | rfl | rfl
  ·refine Runs.mkObj a1a Tryd.call36 Tryd.func36 rfl Tryd.ntmps36 Tryd.results36 rfl rfl ?_
   (repeat' (first
  | refine SP ?_
  | refine a01 (by first | exact beq_self_eq_true _ | decide) ?_
  | refine a05 (by decide) ?_
  | (apply a0g <;> intro hb <;> (try simp only [nS, nT, eq_self, reduceCtorEq] at hb) <;> (try (exfalso; omega)))
  | refine a0u (by decide +kernel) ?_
  | refine a0l ?_
  | ((first | apply a0j [some 0] (hw) ); (focus ((iterate 2 (all_goals (repeat' (first | exact a0q | exact a0c | exact trivial | refine SP ?_ | refine And.intro ?_ ?_ | refine a0b ?_ ?_ | refine a2j ?_ rfl | exact a0d rfl rfl | exact a0a _ _ )))))); any_goals (apply a0k; rfl))
  | ((first | apply a1o (hof)); (focus (iterate 2 (all_goals (repeat' (first | exact a0c | refine a0b ?_ ?_ | refine a0o ?_ | exact a0a _ _ ))))))
  | (apply a1q 0 [some 1, some 2, some 3, some 4, some 5, some 6, some 7, some 8, some 9, some 10, some 11, some 12, some 13, some 14, some 15, some 16, some 17] [] rfl; (focus (iterate 2 (all_goals (repeat' (first | exact a0q | exact a0e rfl | exact a3f rfl rfl rfl rfl rfl rfl rfl rfl | exact a0x rfl | exact a0c | exact trivial | refine SP ?_ | refine And.intro ?_ ?_ | refine a0b ?_ ?_ | refine a0n ?_ | exact a0d rfl rfl | exact a0a _ _ ))))); (any_goals rfl))
  ))
  ·refine Runs.mkObj a1a Tryd.call36 Tryd.func36 rfl Tryd.ntmps36 Tryd.results36 rfl rfl ?_
   (repeat' (first
  | refine SP ?_
  | refine a01 (by first | exact beq_self_eq_true _ | decide) ?_
  | refine a05 (by decide) ?_
  | (apply a0g <;> intro hb <;> (try simp only [nS, nT, eq_self, reduceCtorEq] at hb) <;> (try (exfalso; omega)))
  | refine a0u (by decide +kernel) ?_
  | refine a0l ?_
  | ((first | apply a0j [some 0] (hw) ); (focus ((iterate 2 (all_goals (repeat' (first | exact a0q | exact a0c | exact trivial | refine SP ?_ | refine And.intro ?_ ?_ | refine a0b ?_ ?_ | refine a2j ?_ rfl | exact a0d rfl rfl | exact a0a _ _ )))))); any_goals (apply a0k; rfl))
  | ((first | apply a1o (hof)); (focus (iterate 2 (all_goals (repeat' (first | exact a0c | refine a0b ?_ ?_ | refine a0o ?_ | exact a0a _ _ ))))))
  | (apply a1q 0 [some 1, some 2, some 3, some 4, some 5, some 6, some 7, some 8, some 9, some 10, some 11, some 12, some 13, some 14, some 15, some 16, some 17] [] rfl; (focus (iterate 2 (all_goals (repeat' (first | exact a0q | exact a0e rfl | exact a3f rfl rfl rfl rfl rfl rfl rfl rfl | exact a0x rfl | exact a0c | exact trivial | refine SP ?_ | refine And.intro ?_ ?_ | refine a0b ?_ ?_ | refine a0n ?_ | exact a0d rfl rfl | exact a0a _ _ ))))); (any_goals rfl))
  ))
  ·refine Runs.mkObj a1a Tryd.call36 Tryd.func36 rfl Tryd.ntmps36 Tryd.results36 rfl rfl ?_
   (repeat' (first
  | refine SP ?_
  | refine a01 (by first | exact beq_self_eq_true _ | decide) ?_
  | refine a05 (by decide) ?_
  | (apply a0g <;> intro hb <;> (try simp only [nS, nT, eq_self, reduceCtorEq] at hb) <;> (try (exfalso; omega)))
  | refine a0u (by decide +kernel) ?_
  | refine a0l ?_
  | ((first | apply a0j [some 0] (hw) ); (focus ((iterate 2 (all_goals (repeat' (first | exact a0q | exact a0c | exact trivial | refine SP ?_ | refine And.intro ?_ ?_ | refine a0b ?_ ?_ | refine a2j ?_ rfl | exact a0d rfl rfl | exact a0a _ _ )))))); any_goals (apply a0k; rfl))
  | ((first | apply a1o (hof)); (focus (iterate 2 (all_goals (repeat' (first | exact a0c | refine a0b ?_ ?_ | refine a0o ?_ | exact a0a _ _ ))))))
  | (apply a1q 0 [some 1, some 2, some 3, some 4, some 5, some 6, some 7, some 8, some 9, some 10, some 11, some 12, some 13, some 14, some 15, some 16, some 17] [] rfl; (focus (iterate 2 (all_goals (repeat' (first | exact a0q | exact a0e rfl | exact a3f rfl rfl rfl rfl rfl rfl rfl rfl | exact a0x rfl | exact a0c | exact trivial | refine SP ?_ | refine And.intro ?_ ?_ | refine a0b ?_ ?_ | refine a0n ?_ | exact a0d rfl rfl | exact a0a _ _ ))))); (any_goals rfl))
  ))
  ·refine Runs.mkObj a1a Tryd.call36 Tryd.func36 rfl Tryd.ntmps36 Tryd.results36 rfl rfl ?_
   (repeat' (first
  | refine SP ?_
  | refine a01 (by first | exact beq_self_eq_true _ | decide) ?_
  | refine a05 (by decide) ?_
  | (apply a0g <;> intro hb <;> (try simp only [nS, nT, eq_self, reduceCtorEq] at hb) <;> (try (exfalso; omega)))
  | refine a0u (by decide +kernel) ?_
  | refine a0l ?_
  | ((first | apply a0j [some 0] (hw) ); (focus ((iterate 2 (all_goals (repeat' (first | exact a0q | exact a0c | exact trivial | refine SP ?_ | refine And.intro ?_ ?_ | refine a0b ?_ ?_ | refine a2j ?_ rfl | exact a0d rfl rfl | exact a0a _ _ )))))); any_goals (apply a0k; rfl))
  | ((first | apply a1o (hof)); (focus (iterate 2 (all_goals (repeat' (first | exact a0c | refine a0b ?_ ?_ | refine a0o ?_ | exact a0a _ _ ))))))
  | (apply a1q 0 [some 1, some 2, some 3, some 4, some 5, some 6, some 7, some 8, some 9, some 10, some 11, some 12, some 13, some 14, some 15, some 16, some 17] [] rfl; (focus (iterate 2 (all_goals (repeat' (first | exact a0q | exact a0e rfl | exact a3f rfl rfl rfl rfl rfl rfl rfl rfl | exact a0x rfl | exact a0c | exact trivial | refine SP ?_ | refine And.intro ?_ ?_ | refine a0b ?_ ?_ | refine a0n ?_ | exact a0d rfl rfl | exact a0a _ _ ))))); (any_goals rfl))
  ))
  ·refine Runs.mkObj a1a Tryd.call36 Tryd.func36 rfl Tryd.ntmps36 Tryd.results36 rfl rfl ?_
   (repeat' (first
  | refine SP ?_
  | refine a01 (by first | exact beq_self_eq_true _ | decide) ?_
  | refine a05 (by decide) ?_
  | (apply a0g <;> intro hb <;> (try simp only [nS, nT, eq_self, reduceCtorEq] at hb) <;> (try (exfalso; omega)))
  | refine a0u (by decide +kernel) ?_
  | refine a0l ?_
  | ((first | apply a0j [some 0] (hw) ); (focus ((iterate 2 (all_goals (repeat' (first | exact a0q | exact a0c | exact trivial | refine SP ?_ | refine And.intro ?_ ?_ | refine a0b ?_ ?_ | refine a2j ?_ rfl | exact a0d rfl rfl | exact a0a _ _ )))))); any_goals (apply a0k; rfl))
  | ((first | apply a1o (hof)); (focus (iterate 2 (all_goals (repeat' (first | exact a0c | refine a0b ?_ ?_ | refine a0o ?_ | exact a0a _ _ ))))))
  | (apply a1q 0 [some 1, some 2, some 3, some 4, some 5, some 6, some 7, some 8, some 9, some 10, some 11, some 12, some 13, some 14, some 15, some 16, some 17] [] rfl; (focus (iterate 2 (all_goals (repeat' (first | exact a0q | exact a0e rfl | exact a3f rfl rfl rfl rfl rfl rfl rfl rfl | exact a0x rfl | exact a0c | exact trivial | refine SP ?_ | refine And.intro ?_ ?_ | refine a0b ?_ ?_ | refine a0n ?_ | exact a0d rfl rfl | exact a0a _ _ ))))); (any_goals rfl))
  ))
  ·refine Runs.mkObj a1a Tryd.call36 Tryd.func36 rfl Tryd.ntmps36 Tryd.results36 rfl rfl ?_
   (repeat' (first
  | refine SP ?_
  | refine a01 (by first | exact beq_self_eq_true _ | decide) ?_
  | refine a05 (by decide) ?_
  | (apply a0g <;> intro hb <;> (try simp only [nS, nT, eq_self, reduceCtorEq] at hb) <;> (try (exfalso; omega)))
  | refine a0u (by decide +kernel) ?_
  | refine a0l ?_
  | ((first | apply a0j [some 0] (hw) ); (focus ((iterate 2 (all_goals (repeat' (first | exact a0q | exact a0c | exact trivial | refine SP ?_ | refine And.intro ?_ ?_ | refine a0b ?_ ?_ | refine a2j ?_ rfl | exact a0d rfl rfl | exact a0a _ _ )))))); any_goals (apply a0k; rfl))
  | ((first | apply a1o (hof)); (focus (iterate 2 (all_goals (repeat' (first | exact a0c | refine a0b ?_ ?_ | refine a0o ?_ | exact a0a _ _ ))))))
  | (apply a1q 0 [some 1, some 2, some 3, some 4, some 5, some 6, some 7, some 8, some 9, some 10, some 11, some 12, some 13, some 14, some 15, some 16, some 17] [] rfl; (focus (iterate 2 (all_goals (repeat' (first | exact a0q | exact a0e rfl | exact a3f rfl rfl rfl rfl rfl rfl rfl rfl | exact a0x rfl | exact a0c | exact trivial | refine SP ?_ | refine And.intro ?_ ?_ | refine a0b ?_ ?_ | refine a0n ?_ | exact a0d rfl rfl | exact a0a _ _ ))))); (any_goals rfl))
  ))
  ·refine Runs.mkObj a1a Tryd.call36 Tryd.func36 rfl Tryd.ntmps36 Tryd.results36 rfl rfl ?_
   (repeat' (first
  | refine SP ?_
  | refine a01 (by first | exact beq_self_eq_true _ | decide) ?_
  | refine a05 (by decide) ?_
  | (apply a0g <;> intro hb <;> (try simp only [nS, nT, eq_self, reduceCtorEq] at hb) <;> (try (exfalso; omega)))
  | refine a0u (by decide +kernel) ?_
  | refine a0l ?_
  | ((first | apply a0j [some 0] (hw) ); (focus ((iterate 2 (all_goals (repeat' (first | exact a0q | exact a0c | exact trivial | refine SP ?_ | refine And.intro ?_ ?_ | refine a0b ?_ ?_ | refine a2j ?_ rfl | exact a0d rfl rfl | exact a0a _ _ )))))); any_goals (apply a0k; rfl))
  | ((first | apply a1o (hof)); (focus (iterate 2 (all_goals (repeat' (first | exact a0c | refine a0b ?_ ?_ | refine a0o ?_ | exact a0a _ _ ))))))
  | (apply a1q 0 [some 1, some 2, some 3, some 4, some 5, some 6, some 7, some 8, some 9, some 10, some 11, some 12, some 13, some 14, some 15, some 16, some 17] [] rfl; (focus (iterate 2 (all_goals (repeat' (first | exact a0q | exact a0e rfl | exact a3f rfl rfl rfl rfl rfl rfl rfl rfl | exact a0x rfl | exact a0c | exact trivial | refine SP ?_ | refine And.intro ?_ ?_ | refine a0b ?_ ?_ | refine a0n ?_ | exact a0d rfl rfl | exact a0a _ _ ))))); (any_goals rfl))
  ))
  ·refine Runs.mkObj a1a Tryd.call36 Tryd.func36 rfl Tryd.ntmps36 Tryd.results36 rfl rfl ?_
   (repeat' (first
  | refine SP ?_
  | refine a01 (by first | exact beq_self_eq_true _ | decide) ?_
  | refine a05 (by decide) ?_
  | (apply a0g <;> intro hb <;> (try simp only [nS, nT, eq_self, reduceCtorEq] at hb) <;> (try (exfalso; omega)))
  | refine a0u (by decide +kernel) ?_
  | refine a0l ?_
  | ((first | apply a0j [some 0] (hw) ); (focus ((iterate 2 (all_goals (repeat' (first | exact a0q | exact a0c | exact trivial | refine SP ?_ | refine And.intro ?_ ?_ | refine a0b ?_ ?_ | refine a2j ?_ rfl | exact a0d rfl rfl | exact a0a _ _ )))))); any_goals (apply a0k; rfl))
  | ((first | apply a1o (hof)); (focus (iterate 2 (all_goals (repeat' (first | exact a0c | refine a0b ?_ ?_ | refine a0o ?_ | exact a0a _ _ ))))))
  | (apply a1q 0 [some 1, some 2, some 3, some 4, some 5, some 6, some 7, some 8, some 9, some 10, some 11, some 12, some 13, some 14, some 15, some 16, some 17] [] rfl; (focus (iterate 2 (all_goals (repeat' (first | exact a0q | exact a0e rfl | exact a3f rfl rfl rfl rfl rfl rfl rfl rfl | exact a0x rfl | exact a0c | exact trivial | refine SP ?_ | refine And.intro ?_ ?_ | refine a0b ?_ ?_ | refine a0n ?_ | exact a0d rfl rfl | exact a0a _ _ ))))); (any_goals rfl))
  ))
 ·have e : a8z c i m at' = { c with last := at', mrk := b26 c.mrk i at', rl := b26 c.rl i at', rc := b26 c.rc i (hrF (c.rc i) (mgD m c.nd.id (i + 1)) at') } := if_neg hg
  rw [e, a5x, a5x]
  generalize mgD m c.nd.id ((i : Int) + 1) = d at *
  clear e
  rcases lt8 hi with rfl | rfl | rfl | rfl | rfl | rfl | rfl | rfl
  ·refine Runs.mkObj a1a Tryd.call36 Tryd.func36 rfl Tryd.ntmps36 Tryd.results36 rfl rfl ?_
   (repeat' (first
  | refine SP ?_
  | refine a01 (by first | exact beq_self_eq_true _ | decide) ?_
  | refine a05 (by decide) ?_
  | (apply a0g <;> intro hb <;> (try simp only [nS, nT, eq_self, reduceCtorEq] at hb) <;> (try (exfalso; omega)))
  | refine a0u (by decide +kernel) ?_
  | refine a0l ?_
  | ((first | apply a0j [some 0] (hw) ); (focus ((iterate 2 (all_goals (repeat' (first | exact a0q | exact a0c | exact trivial | refine SP ?_ | refine And.intro ?_ ?_ | refine a0b ?_ ?_ | refine a2j ?_ rfl | exact a0d rfl rfl | exact a0a _ _ )))))); any_goals (apply a0k; rfl))
  | ((first | apply a1o (hof)); (focus (iterate 2 (all_goals (repeat' (first | exact a0c | refine a0b ?_ ?_ | refine a0o ?_ | exact a0a _ _ ))))))
  | ((first | apply a0s [some 10] (hH)); (focus ((iterate 2 (all_goals (repeat' (first | exact a0e rfl | exact a0c | exact trivial | refine SP ?_ | refine And.intro ?_ ?_ | refine a0b ?_ ?_ | refine a0o ?_ | exact a0d rfl rfl | exact a0a _ _ )))))); (any_goals (first | (apply a0v; rfl) )))
  | (apply a1q 0 [some 1, some 2, some 3, some 4, some 5, some 6, some 7, some 8, some 9, some 10, some 11, some 12, some 13, some 14, some 15, some 16, some 17] [] rfl; (focus (iterate 2 (all_goals (repeat' (first | exact a0q | exact a0e rfl | exact a3f rfl rfl rfl rfl rfl rfl rfl rfl | exact a0x rfl | exact a0c | exact trivial | refine SP ?_ | refine And.intro ?_ ?_ | refine a0b ?_ ?_ | refine a0n ?_ | exact a0d rfl rfl | exact a0a _ _ ))))); (any_goals rfl))
  ))
  ·refine Runs.mkObj a1a Tryd.call36 Tryd.func36 rfl Tryd.ntmps36 Tryd.results36 rfl rfl ?_
   (repeat' (first
  | refine SP ?_
  | refine a01 (by first | exact beq_self_eq_true _ | decide) ?_
  | refine a05 (by decide) ?_
  | (apply a0g <;> intro hb <;> (try simp only [nS, nT, eq_self, reduceCtorEq] at hb) <;> (try (exfalso; omega)))
  | refine a0u (by decide +kernel) ?_
  | refine a0l ?_
  | ((first | apply a0j [some 0] (hw) ); (focus ((iterate 2 (all_goals (repeat' (first | exact a0q | exact a0c | exact trivial | refine SP ?_ | refine And.intro ?_ ?_ | refine a0b ?_ ?_ | refine a2j ?_ rfl | exact a0d rfl rfl | exact a0a _ _ )))))); any_goals (apply a0k; rfl))
  | ((first | apply a1o (hof)); (focus (iterate 2 (all_goals (repeat' (first | exact a0c | refine a0b ?_ ?_ | refine a0o ?_ | exact a0a _ _ ))))))
  | ((first | apply a0s [some 11] (hH)); (focus ((iterate 2 (all_goals (repeat' (first | exact a0e rfl | exact a0c | exact trivial | refine SP ?_ | refine And.intro ?_ ?_ | refine a0b ?_ ?_ | refine a0o ?_ | exact a0d rfl rfl | exact a0a _ _ )))))); (any_goals (first | (apply a0v; rfl) )))
  | (apply a1q 0 [some 1, some 2, some 3, some 4, some 5, some 6, some 7, some 8, some 9, some 10, some 11, some 12, some 13, some 14, some 15, some 16, some 17] [] rfl; (focus (iterate 2 (all_goals (repeat' (first | exact a0q | exact a0e rfl | exact a3f rfl rfl rfl rfl rfl rfl rfl rfl | exact a0x rfl | exact a0c | exact trivial | refine SP ?_ | refine And.intro ?_ ?_ | refine a0b ?_ ?_ | refine a0n ?_ | exact a0d rfl rfl | exact a0a _ _ ))))); (any_goals rfl))
  ))
  ·refine Runs.mkObj a1a Tryd.call36 Tryd.func36 rfl Tryd.ntmps36 Tryd.results36 rfl rfl ?_
   (repeat' (first
  | refine SP ?_
  | refine a01 (by first | exact beq_self_eq_true _ | decide) ?_
  | refine a05 (by decide) ?_
  | (apply a0g <;> intro hb <;> (try simp only [nS, nT, eq_self, reduceCtorEq] at hb) <;> (try (exfalso; omega)))
  | refine a0u (by decide +kernel) ?_
  | refine a0l ?_
  | ((first | apply a0j [some 0] (hw) ); (focus ((iterate 2 (all_goals (repeat' (first | exact a0q | exact a0c | exact trivial | refine SP ?_ | refine And.intro ?_ ?_ | refine a0b ?_ ?_ | refine a2j ?_ rfl | exact a0d rfl rfl | exact a0a _ _ )))))); any_goals (apply a0k; rfl))
  | ((first | apply a1o (hof)); (focus (iterate 2 (all_goals (repeat' (first | exact a0c | refine a0b ?_ ?_ | refine a0o ?_ | exact a0a _ _ ))))))
  | ((first | apply a0s [some 12] (hH)); (focus ((iterate 2 (all_goals (repeat' (first | exact a0e rfl | exact a0c | exact trivial | refine SP ?_ | refine And.intro ?_ ?_ | refine a0b ?_ ?_ | refine a0o ?_ | exact a0d rfl rfl | exact a0a _ _ )))))); (any_goals (first | (apply a0v; rfl) )))
  | (apply a1q 0 [some 1, some 2, some 3, some 4, some 5, some 6, some 7, some 8, some 9, some 10, some 11, some 12, some 13, some 14, some 15, some 16, some 17] [] rfl; (focus (iterate 2 (all_goals (repeat' (first | exact a0q | exact a0e rfl | exact a3f rfl rfl rfl rfl rfl rfl rfl rfl | exact a0x rfl | exact a0c | exact trivial | refine SP ?_ | refine And.intro ?_ ?_ | refine a0b ?_ ?_ | refine a0n ?_ | exact a0d rfl rfl | exact a0a _ _ ))))); (any_goals rfl))
  ))
  ·refine Runs.mkObj a1a Tryd.call36 Tryd.func36 rfl Tryd.ntmps36 Tryd.results36 rfl rfl ?_
   (repeat' (first
  | refine SP ?_
  | refine a01 (by first | exact beq_self_eq_true _ | decide) ?_
  | refine a05 (by decide) ?_
  | (apply a0g <;> intro hb <;> (try simp only [nS, nT, eq_self, reduceCtorEq] at hb) <;> (try (exfalso; omega)))
  | refine a0u (by decide +kernel) ?_
  | refine a0l ?_
  | ((first | apply a0j [some 0] (hw) ); (focus ((iterate 2 (all_goals (repeat' (first | exact a0q | exact a0c | exact trivial | refine SP ?_ | refine And.intro ?_ ?_ | refine a0b ?_ ?_ | refine a2j ?_ rfl | exact a0d rfl rfl | exact a0a _ _ )))))); any_goals (apply a0k; rfl))
  | ((first | apply a1o (hof)); (focus (iterate 2 (all_goals (repeat' (first | exact a0c | refine a0b ?_ ?_ | refine a0o ?_ | exact a0a _ _ ))))))
  | ((first | apply a0s [some 13] (hH)); (focus ((iterate 2 (all_goals (repeat' (first | exact a0e rfl | exact a0c | exact trivial | refine SP ?_ | refine And.intro ?_ ?_ | refine a0b ?_ ?_ | refine a0o ?_ | exact a0d rfl rfl | exact a0a _ _ )))))); (any_goals (first | (apply a0v; rfl) )))
  | (apply a1q 0 [some 1, some 2, some 3, some 4, some 5, some 6, some 7, some 8, some 9, some 10, some 11, some 12, some 13, some 14, some 15, some 16, some 17] [] rfl; (focus (iterate 2 (all_goals (repeat' (first | exact a0q | exact a0e rfl | exact a3f rfl rfl rfl rfl rfl rfl rfl rfl | exact a0x rfl | exact a0c | exact trivial | refine SP ?_ | refine And.intro ?_ ?_ | refine a0b ?_ ?_ | refine a0n ?_ | exact a0d rfl rfl | exact a0a _ _ ))))); (any_goals rfl))
  ))
  ·refine Runs.mkObj a1a Tryd.call36 Tryd.func36 rfl Tryd.ntmps36 Tryd.results36 rfl rfl ?_
   (repeat' (first
  | refine SP ?_
  | refine a01 (by first | exact beq_self_eq_true _ | decide) ?_
  | refine a05 (by decide) ?_
  | (apply a0g <;> intro hb <;> (try simp only [nS, nT, eq_self, reduceCtorEq] at hb) <;> (try (exfalso; omega)))
  | refine a0u (by decide +kernel) ?_
  | refine a0l ?_
  | ((first | apply a0j [some 0] (hw) ); (focus ((iterate 2 (all_goals (repeat' (first | exact a0q | exact a0c | exact trivial | refine SP ?_ | refine And.intro ?_ ?_ | refine a0b ?_ ?_ | refine a2j ?_ rfl | exact a0d rfl rfl | exact a0a _ _ )))))); any_goals (apply a0k; rfl))
  | ((first | apply a1o (hof)); (focus (iterate 2 (all_goals (repeat' (first | exact a0c | refine a0b ?_ ?_ | refine a0o ?_ | exact a0a _ _ ))))))
  | ((first | apply a0s [some 14] (hH)); (focus ((iterate 2 (all_goals (repeat' (first | exact a0e rfl | exact a0c | exact trivial | refine SP ?_ | refine And.intro ?_ ?_ | refine a0b ?_ ?_ | refine a0o ?_ | exact a0d rfl rfl | exact a0a _ _ )))))); (any_goals (first | (apply a0v; rfl) )))
  | (apply a1q 0 [some 1, some 2, some 3, some 4, some 5, some 6, some 7, some 8, some 9, some 10, some 11, some 12, some 13, some 14, some 15, some 16, some 17] [] rfl; (focus (iterate 2 (all_goals (repeat' (first | exact a0q | exact a0e rfl | exact a3f rfl rfl rfl rfl rfl rfl rfl rfl | exact a0x rfl | exact a0c | exact trivial | refine SP ?_ | refine And.intro ?_ ?_ | refine a0b ?_ ?_ | refine a0n ?_ | exact a0d rfl rfl | exact a0a _ _ ))))); (any_goals rfl))
  ))
  ·refine Runs.mkObj a1a Tryd.call36 Tryd.func36 rfl Tryd.ntmps36 Tryd.results36 rfl rfl ?_
   (repeat' (first
  | refine SP ?_
  | refine a01 (by first | exact beq_self_eq_true _ | decide) ?_
  | refine a05 (by decide) ?_
  | (apply a0g <;> intro hb <;> (try simp only [nS, nT, eq_self, reduceCtorEq] at hb) <;> (try (exfalso; omega)))
  | refine a0u (by decide +kernel) ?_
  | refine a0l ?_
  | ((first | apply a0j [some 0] (hw) ); (focus ((iterate 2 (all_goals (repeat' (first | exact a0q | exact a0c | exact trivial | refine SP ?_ | refine And.intro ?_ ?_ | refine a0b ?_ ?_ | refine a2j ?_ rfl | exact a0d rfl rfl | exact a0a _ _ )))))); any_goals (apply a0k; rfl))
  | ((first | apply a1o (hof)); (focus (iterate 2 (all_goals (repeat' (first | exact a0c | refine a0b ?_ ?_ | refine a0o ?_ | exact a0a _ _ ))))))
  | ((first | apply a0s [some 15] (hH)); (focus ((iterate 2 (all_goals (repeat' (first | exact a0e rfl | exact a0c | exact trivial | refine SP ?_ | refine And.intro ?_ ?_ | refine a0b ?_ ?_ | refine a0o ?_ | exact a0d rfl rfl | exact a0a _ _ )))))); (any_goals (first | (apply a0v; rfl) )))
  | (apply a1q 0 [some 1, some 2, some 3, some 4, some 5, some 6, some 7, some 8, some 9, some 10, some 11, some 12, some 13, some 14, some 15, some 16, some 17] [] rfl; (focus (iterate 2 (all_goals (repeat' (first | exact a0q | exact a0e rfl | exact a3f rfl rfl rfl rfl rfl rfl rfl rfl | exact a0x rfl | exact a0c | exact trivial | refine SP ?_ | refine And.intro ?_ ?_ | refine a0b ?_ ?_ | refine a0n ?_ | exact a0d rfl rfl | exact a0a _ _ ))))); (any_goals rfl))
  ))
  ·refine Runs.mkObj a1a Tryd.call36 Tryd.func36 rfl Tryd.ntmps36 Tryd.results36 rfl rfl ?_
   (repeat' (first
  | refine SP ?_
  | refine a01 (by first | exact beq_self_eq_true _ | decide) ?_
  | refine a05 (by decide) ?_
  | (apply a0g <;> intro hb <;> (try simp only [nS, nT, eq_self, reduceCtorEq] at hb) <;> (try (exfalso; omega)))
  | refine a0u (by decide +kernel) ?_
  | refine a0l ?_
  | ((first | apply a0j [some 0] (hw) ); (focus ((iterate 2 (all_goals (repeat' (first | exact a0q | exact a0c | exact trivial | refine SP ?_ | refine And.intro ?_ ?_ | refine a0b ?_ ?_ | refine a2j ?_ rfl | exact a0d rfl rfl | exact a0a _ _ )))))); any_goals (apply a0k; rfl))
  | ((first | apply a1o (hof)); (focus (iterate 2 (all_goals (repeat' (first | exact a0c | refine a0b ?_ ?_ | refine a0o ?_ | exact a0a _ _ ))))))
  | ((first | apply a0s [some 16] (hH)); (focus ((iterate 2 (all_goals (repeat' (first | exact a0e rfl | exact a0c | exact trivial | refine SP ?_ | refine And.intro ?_ ?_ | refine a0b ?_ ?_ | refine a0o ?_ | exact a0d rfl rfl | exact a0a _ _ )))))); (any_goals (first | (apply a0v; rfl) )))
  | (apply a1q 0 [some 1, some 2, some 3, some 4, some 5, some 6, some 7, some 8, some 9, some 10, some 11, some 12, some 13, some 14, some 15, some 16, some 17] [] rfl; (focus (iterate 2 (all_goals (repeat' (first | exact a0q | exact a0e rfl | exact a3f rfl rfl rfl rfl rfl rfl rfl rfl | exact a0x rfl | exact a0c | exact trivial | refine SP ?_ | refine And.intro ?_ ?_ | refine a0b ?_ ?_ | refine a0n ?_ | exact a0d rfl rfl | exact a0a _ _ ))))); (any_goals rfl))
  ))
  ·refine Runs.mkObj a1a Tryd.call36 Tryd.func36 rfl Tryd.ntmps36 Tryd.results36 rfl rfl ?_
   (repeat' (first
  | refine SP ?_
  | refine a01 (by first | exact beq_self_eq_true _ | decide) ?_
  | refine a05 (by decide) ?_
  | (apply a0g <;> intro hb <;> (try simp only [nS, nT, eq_self, reduceCtorEq] at hb) <;> (try (exfalso; omega)))
  | refine a0u (by decide +kernel) ?_
  | refine a0l ?_
  | ((first | apply a0j [some 0] (hw) ); (focus ((iterate 2 (all_goals (repeat' (first | exact a0q | exact a0c | exact trivial | refine SP ?_ | refine And.intro ?_ ?_ | refine a0b ?_ ?_ | refine a2j ?_ rfl | exact a0d rfl rfl | exact a0a _ _ )))))); any_goals (apply a0k; rfl))
  | ((first | apply a1o (hof)); (focus (iterate 2 (all_goals (repeat' (first | exact a0c | refine a0b ?_ ?_ | refine a0o ?_ | exact a0a _ _ ))))))
  | ((first | apply a0s [some 17] (hH)); (focus ((iterate 2 (all_goals (repeat' (first | exact a0e rfl | exact a0c | exact trivial | refine SP ?_ | refine And.intro ?_ ?_ | refine a0b ?_ ?_ | refine a0o ?_ | exact a0d rfl rfl | exact a0a _ _ )))))); (any_goals (first | (apply a0v; rfl) )))
  | (apply a1q 0 [some 1, some 2, some 3, some 4, some 5, some 6, some 7, some 8, some 9, some 10, some 11, some 12, some 13, some 14, some 15, some 16, some 17] [] rfl; (focus (iterate 2 (all_goals (repeat' (first | exact a0q | exact a0e rfl | exact a3f rfl rfl rfl rfl rfl rfl rfl rfl | exact a0x rfl | exact a0c | exact trivial | refine SP ?_ | refine And.intro ?_ ?_ | refine a0b ?_ ?_ | refine a0n ?_ | exact a0d rfl rfl | exact a0a _ _ ))))); (any_goals rfl))
  ))
end Go.Vx.L42.B

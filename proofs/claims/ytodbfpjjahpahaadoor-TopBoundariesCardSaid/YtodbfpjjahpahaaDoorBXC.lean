/- Lemmas of a small executor for the model, and contracts of functions, used for the law that this claim proves. No condition. -/
import Derived.Test.YtodbfpjjahpahaaDoorBXA
import Derived.Test.YtodbfpjjahpahaaDoorBXB
set_option linter.unusedSimpArgs false
set_option linter.unusedVariables false
set_option maxRecDepth 100000
namespace Go.Vx.L42.B
open Go Go.Proofs Go.Vx.L42
abbrev c23 (nd : Nd) (f : DS) (last : Int) : Blk := rdV 81 24 [.val (.int .u64 nd.id), .val (.int .i64 nd.p1), .val (.int .i64 nd.cl), .val (.int .i64 nd.ac), .val (.int .i64 nd.va), .val (.int .i64 nd.p2), .val (.int .i64 0), .val (.int .i64 8), .val (.int .i64 4000), .val (.int .i64 1), .val (.int .i64 1), .dead,
 .val (.int .i64 f.p1), .val (.int .i64 f.cl), .val (.int .i64 f.ac), .val (.int .i64 f.va), .val (.int .i64 f.p2), .val (.int .u64 f.gm), .val (.int .i64 f.st), .val (.int .u64 f.se), .val (.int .i64 f.sp), .val (.int .u64 f.re), .val (.int .i64 f.rp), .val (.int .i64 last)]
theorem b23 (nd : Nd) (f : DS) (last : Int) : Runs Tryd.prog 29 [.ptr 0 24 0 0] [c23 nd f last] (Det (aD (owD nd)) [c23 nd f last]) := by
 have ho := b5p nd
 refine Runs.mk a1a Tryd.call29 Tryd.func29 rfl Tryd.ntmps29 Tryd.results29 rfl ?_
 (repeat' (first
  | refine SP ?_
  | refine a0u (by decide +kernel) ?_
  | refine a0l ?_
  | refine OB ?_
  | ((first | apply a1o (ho)); (focus (iterate 2 (all_goals (repeat' (first | exact a0c | refine a0b ?_ ?_ | refine a0o ?_ | exact a0a _ _ ))))))
  | (apply a04 [some 0]; (focus (iterate 2 (all_goals (repeat' (first | exact a0q | exact a0c | exact trivial | refine SP ?_ | refine And.intro ?_ ?_ | refine a0b ?_ ?_ | refine a0o ?_ | refine b7p ?_ | exact a0a _ _ ))))); any_goals (apply a0h; rfl))
  ))
theorem b97 (nd : Nd) (f : DS) (last at' : Int) (h : 0 <= at' /\ at' <= 1000000000 /\ last <= at') : Runs Tryd.prog 56 [.ptr 0 24 0 0, .val (.int .i64 at')] [c23 nd f last] (Det (.val (.int .i64 0)) [c23 nd f last]) := by
 refine Runs.mk a1a Tryd.call56 Tryd.func56 rfl Tryd.ntmps56 Tryd.results56 rfl ?_
 (repeat' (first
  | refine SP ?_
  | (apply a0g <;> intro hb <;> (try simp only [nS, nT, eq_self, reduceCtorEq] at hb) <;> (try (exfalso; omega)))
  | refine a0l ?_
  | refine OB ?_
  | (apply a04 [some 0]; (focus (iterate 2 (all_goals (repeat' (first | exact a0q | exact a0c | exact trivial | refine SP ?_ | refine And.intro ?_ ?_ | refine a0b ?_ ?_ | refine b7p ?_ | exact a0a _ _ ))))); any_goals (apply a0h; rfl))
  ))
structure wfQ (nd : Nd) : Prop where
 p1 : 0 <= nd.p1 /\ nd.p1 <= 255
 cl : 0 <= nd.cl /\ nd.cl <= 255
 ac : 0 <= nd.ac /\ nd.ac <= 255
 va : 0 <= nd.va /\ nd.va <= 65535
 p2 : 0 <= nd.p2 /\ nd.p2 <= 255
abbrev cfC (nd : Nd) : List AV := [.val (.int .u64 nd.id), .val (.int .i64 nd.p1), .val (.int .i64 nd.cl), .val (.int .i64 nd.ac), .val (.int .i64 nd.va), .val (.int .i64 nd.p2), .val (.int .i64 0), .val (.int .i64 8), .val (.int .i64 4000), .val (.int .i64 1), .val (.int .i64 1)]
def cfs (nd : Nd) : List F3 := [(nd.p1, 0, 255), (nd.cl, 0, 255), (nd.ac, 0, 255), (nd.va, 0, 65535), (nd.p2, 0, 255), (0, 0, 255), (8, 1, 8), (4000, 1, 1125899906842624), (1, 1, 8), (1, 1, 1125899906842624)]
theorem c6y {nd : Nd} (h : wfQ nd) : ∀ k, k < 10 -> ((cfs nd).getD k (0, 0, 0)).2.1 <= ((cfs nd).getD k (0, 0, 0)).1 /\ ((cfs nd).getD k (0, 0, 0)).1 <= ((cfs nd).getD k (0, 0, 0)).2.2 := by
 obtain ⟨h1, h2, h3, h4, h5⟩ := h
 intro k hk
 have : k = 0 \/ k = 1 \/ k = 2 \/ k = 3 \/ k = 4 \/ k = 5 \/ k = 6 \/ k = 7 \/ k = 8 \/ k = 9 := by omega
 rcases this with rfl | rfl | rfl | rfl | rfl | rfl | rfl | rfl | rfl | rfl <;> simp [cfs] <;> omega
set_option maxHeartbeats 1000000 in
theorem b9m (nd : Nd) (h : wfQ nd) : Runs Tryd.prog 28 [.agg (cfC nd)] [] (Det (.val (.int .i64 0)) []) := by
 have hf := c6y h
 clear h
 refine Runs.mk a1a Tryd.call28 Tryd.func28 rfl Tryd.ntmps28 Tryd.results28 rfl ?_
 (repeat' (first
  | refine SP ?_
  | refine a0l ?_
  ))
 refine b8s (σ := { k : Nat // k <= 10 }) (fun k => ⟨[(38, .sl 2 3 0 10 (some 10)), (39, .val (.int .i64 10)), (40, .val (.int .i64 k.1))], [.var (cfC nd), .var [.val (.int .i64 nd.p1), .val (.int .i64 nd.cl), .val (.int .i64 nd.ac), .val (.int .i64 nd.va), .val (.int .i64 nd.p2)], .arr true 133 3 10 (a2x f3C (0, 0, 0) (cfs nd))]⟩) (fun k => 10 - k.1) ⟨0, by omega⟩ ?_ ?_
 ·(apply a0t [some 0, some 1, some 2]; (focus (iterate 2 (all_goals (repeat' (first | exact a0c | exact trivial | refine SP ?_ | refine And.intro ?_ ?_ | refine a0b ?_ ?_ | refine a0n ?_ | exact a0i rfl rfl rfl | exact a0a _ _ | refine a0y ?_ ?_ | exact a2o | (apply a4e rfl; (focus (refine a0y ?_ ?_))) ))))); any_goals (apply a0h; rfl))
 rintro ⟨k, hk⟩
 have hfk := hf (0 + Int.toNat (k : Int))
 (repeat' (first
  | refine SP ?_
  | (apply a0g <;> intro hb <;> (try simp only [nS, nT, eq_self, reduceCtorEq] at hb) <;> (try (exfalso; omega)))
  | refine a0l ?_
  | refine OB ?_
  | (apply a04 []; (focus (iterate 2 (all_goals (repeat' (first | exact trivial | refine And.intro ?_ ?_ | exact a0a _ _ ))))); any_goals (apply a0h; rfl))
  | (refine b9n (⟨k + 1, by omega⟩) (by first | (simp; omega) | omega) ?_; apply a0t [some 0, some 1, some 2]; (focus (iterate 2 (all_goals (repeat' (first | exact a0c | exact trivial | refine SP ?_ | refine And.intro ?_ ?_ | refine a0b ?_ ?_ | refine a0n ?_ | exact a0i rfl rfl rfl | exact a0a _ _ | exact a0f rfl rfl rfl | ((refine a0r ?_); first | with_reducible rfl | omega | ((try simp only [wS]); omega) | rfl) ))))); any_goals (apply a0h; rfl))
  ))
abbrev exB : Blk := .var [.val (.int .i64 0), .val (.bool false), .val (.int .u64 0), .val (.int .i64 0), .val (.int .i64 0), .val (.int .i64 0), .val (.int .i64 0), .val (.bool false), .val (.int .i64 0), .val (.int .i64 0), .val (.int .i64 0), .val (.bool false), .val (.int .i64 0), .val (.int .i64 0), .val (.bool false), .val (.int .i64 0)]
theorem b6n : Runs Tryd.prog 32 [.val (.int .i64 0)] [] (Det (.ptr 0 16 0 0) [exB]) := by
 refine Runs.mk a1a Tryd.call32 Tryd.func32 rfl Tryd.ntmps32 Tryd.results32 rfl ?_
 (repeat' (first
  | refine SP ?_
  | refine a05 (by decide) ?_
  | refine a0l ?_
  | (apply a04 [some _]; (focus (iterate 2 (all_goals (repeat' (first | exact a0c | exact trivial | refine SP ?_ | refine And.intro ?_ ?_ | refine a0b ?_ ?_ | refine a0n ?_ | exact a0d rfl rfl | exact a0a _ _ ))))); any_goals (apply a0h; rfl))
  ))
end Go.Vx.L42.B
set_option maxRecDepth 100000
namespace Go.Vx.L42.B
open Go Go.Proofs Go.Vx.L42
def c90 (nd : Nd) : CS := ⟨nd, owD nd, 0, fun _ => 4, fun _ => 0, fun _ => 0, fun _ => 0, fun _ => none⟩
set_option maxHeartbeats 8000000 in
theorem a2f (nd : Nd) (h : wfQ nd) : Runs Tryd.prog 11 [.agg (cfC nd)] [] (Det (.ptr 0 24 0 0) [.obj (a1h (c90 nd))]) := by
 have hc := b9m nd h
 have ho := b23 nd default 0
 have hr := c6e
 have hf := c5c
 have he := b6n
 rw [a5x]
 refine Runs.mk a1a Tryd.call11 Tryd.func11 rfl Tryd.ntmps11 Tryd.results11 rfl ?_
 (repeat' (first
  | refine SP ?_
  | refine a01 (by first | exact beq_self_eq_true _ | decide) ?_
  | refine a05 (by decide) ?_
  | refine a0u (by decide +kernel) ?_
  | refine a0l ?_
  | ((first | apply a2d (hc) ); (focus (iterate 2 (all_goals (repeat' (first | exact a0c | refine a0b ?_ ?_ | refine a0o ?_ | exact a0a _ _ ))))))
  | ((first | apply a1y (ho) ); (focus (iterate 2 (all_goals (repeat' (first | exact a0q | exact a0c | exact trivial | refine SP ?_ | refine And.intro ?_ ?_ | refine a0b ?_ ?_ | refine a2j ?_ rfl | exact a0d rfl rfl | exact a0a _ _ ))))); (try (any_goals fail)))
  | ((first | apply c1c (hr)); (focus (iterate 2 (all_goals (repeat' (first | exact a0c | exact trivial | refine SP ?_ | refine And.intro ?_ ?_ | refine a0b ?_ ?_ | exact a0i rfl rfl rfl | exact a0a _ _ | refine a0y ?_ ?_ | exact a2o | (apply a4e rfl; (focus (refine a0y ?_ ?_))) ))))); (try (any_goals (first | (apply b0q; rfl)))))
  | ((first | apply a1o (hf)); (focus (iterate 2 (all_goals (repeat' (first | exact a0c | refine a0b ?_ ?_ | exact a0a _ _ ))))))
  | ((first | apply a1o (he)); (focus (iterate 2 (all_goals (repeat' (first | exact a0c | refine a0b ?_ ?_ | exact a0a _ _ ))))))
  | refine a2m 9 ?_
  | (apply a1q 2 [some 1, some 6, some 10, some 14, some 18, some 22, some 26, some 30, some 34, some 4, some 8, some 12, some 16, some 20, some 24, some 28, some 32] [] rfl; (focus (iterate 2 (all_goals (repeat' (first | exact a0q | exact a0e rfl | exact a0x rfl | refine map_mk ?_ ?_ | exact a0c | exact trivial | refine SP ?_ | refine And.intro ?_ ?_ | refine a0b ?_ ?_ | refine a0n ?_ | exact a0d rfl rfl | exact a0a _ _ ))))); (any_goals rfl))
  ))
 all_goals
  intro x hx
  simp only [List.mem_cons, List.not_mem_nil, or_false] at hx
  rcases hx with rfl | rfl | rfl | rfl | rfl | rfl | rfl | rfl
 all_goals exact a0d rfl rfl
end Go.Vx.L42.B

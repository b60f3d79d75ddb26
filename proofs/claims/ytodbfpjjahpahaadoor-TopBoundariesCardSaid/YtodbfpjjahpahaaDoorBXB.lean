/- Lemmas of a small executor for the model, and contracts of functions, used for the law that this claim proves. No condition. -/
import Derived.Test.YtodbfpjjahpahaaDoorBXA
set_option linter.unusedSimpArgs false
set_option linter.unusedVariables false
set_option maxRecDepth 100000
namespace Go.Vx.L42.B
open Go Go.Proofs Go.Vx.L42
theorem c5c : Runs Tryd.prog 31 [.val (.int .i64 4000), .val (.int .i64 1)] [] (Det (.ptr 0 4 0 0) [.obj (a3j 0 none)]) := by
 rw [a58]
 refine Runs.mk a1a Tryd.call31 Tryd.func31 rfl Tryd.ntmps31 Tryd.results31 rfl ?_
 (repeat' (first
  | refine SP ?_
  | refine a05 (by decide) ?_
  | refine a0l ?_
  | (apply a1q 0 [] [] rfl; (focus (iterate 2 (all_goals (repeat' (first | exact a0c | exact trivial | refine SP ?_ | refine And.intro ?_ ?_ | refine a0b ?_ ?_ | refine a0n ?_ | exact a0d rfl rfl | exact a0a _ _ ))))); (any_goals rfl))
  ))
def fgF (last at' : Int) : RS -> RS
 | none => none
 | some (d, ts) => if 0 < rcN last at' ts then some (d, ts) else none
def b49 (r : RS) : Prop := ∀ d ts, r = some (d, ts) -> 0 < ts.length /\ ts.length <= 8
theorem b1r {last at' : Int} {r : RS} (h : b49 r) : b49 (fgF last at' r) := by
 intro d ts e
 cases r with
 | none => cases e
 | some v =>
  obtain ⟨d', ts'⟩ := v
  simp only [fgF] at e
  split at e
  ·exact h d ts e
  ·cases e
set_option maxHeartbeats 1000000 in
theorem c1u (last at' : Int) (r : RS) (hr : 0 <= last /\ last <= 1000000000 /\ 0 <= at' /\ at' <= 1000000000) (hn : b49 r) :
  Runs Tryd.prog 57 [.ptr 0 4 0 0, .val (.int .i64 at')] [.obj (a3j last r)] (Det .dead [.obj (a3j last (fgF last at' r))]) := by
 cases r with
 | none =>
  rw [show fgF last at' none = none from rfl, a58]
  refine Runs.mkObj a1a Tryd.call57 Tryd.func57 rfl Tryd.ntmps57 Tryd.results57 rfl rfl ?_
  (repeat' (first
  | refine SP ?_
  | refine a05 (by decide) ?_
  | refine a0l ?_
  | refine a2m 1 ?_
  | (apply a1q 0 [] [] rfl; (focus (iterate 2 (all_goals (repeat' (first | exact a0q | exact a0c | exact trivial | refine SP ?_ | refine And.intro ?_ ?_ | refine a0b ?_ ?_ | refine a0n ?_ | exact a0a _ _ ))))); (any_goals rfl))
  ))
 | some v =>
  obtain ⟨d, ts⟩ := v
  obtain ⟨h0, h8⟩ := hn d ts rfl
  have hrc := b27 last at' ts hr h8
  have hfg : fgF last at' (some (d, ts)) = if 0 < rcN last at' ts then some (d, ts) else none := rfl
  rw [a5h _ _ _ h0]
  generalize rcN last at' ts = n at *
  by_cases hp : 0 < n
  ·rw [hfg, if_pos hp, a5h _ _ _ h0]
   refine Runs.mkObj a1a Tryd.call57 Tryd.func57 rfl Tryd.ntmps57 Tryd.results57 rfl rfl ?_
   (repeat' (first
  | refine SP ?_
  | refine a01 (by first | exact beq_self_eq_true _ | decide) ?_
  | refine a05 (by decide) ?_
  | (apply a0g <;> intro hb <;> (try simp only [nS, nT, eq_self, reduceCtorEq] at hb) <;> (try (exfalso; omega)))
  | refine a0l ?_
  | refine OB ?_
  | refine a2m 2 ?_
  | ((first | apply a0j [some 0, some 2, some 3] (hrc) ); (focus ((iterate 2 (all_goals (repeat' (first | exact a0q | exact a0c | exact trivial | refine SP ?_ | refine And.intro ?_ ?_ | refine a0b ?_ ?_ | refine a2j ?_ rfl | exact a0d rfl rfl | exact a0i rfl rfl rfl | exact a0a _ _ | exact a0f rfl rfl rfl )))))); any_goals (apply a0k; rfl))
  | (apply a1q 0 [some 5, some 2, some 3] [] rfl; (focus (iterate 2 (all_goals (repeat' (first | exact a0q | exact a48 rfl rfl | exact a0c | exact trivial | refine SP ?_ | refine And.intro ?_ ?_ | refine a0b ?_ ?_ | refine a0n ?_ | exact a0i rfl rfl rfl | exact a0a _ _ | exact a0f rfl rfl rfl ))))); (any_goals rfl))
  ))
  ·rw [hfg, if_neg hp, a58]
   refine Runs.mkObj a1a Tryd.call57 Tryd.func57 rfl Tryd.ntmps57 Tryd.results57 rfl rfl ?_
   (repeat' (first
  | refine SP ?_
  | refine a01 (by first | exact beq_self_eq_true _ | decide) ?_
  | refine a05 (by decide) ?_
  | (apply a0g <;> intro hb <;> (try simp only [nS, nT, eq_self, reduceCtorEq] at hb) <;> (try (exfalso; omega)))
  | refine a0l ?_
  | refine OB ?_
  | refine a2m 2 ?_
  | ((first | apply a0j [some 0, some 2, some 3] (hrc) ); (focus ((iterate 2 (all_goals (repeat' (first | exact a0q | exact a0c | exact trivial | refine SP ?_ | refine And.intro ?_ ?_ | refine a0b ?_ ?_ | refine a2j ?_ rfl | exact a0d rfl rfl | exact a0i rfl rfl rfl | exact a0a _ _ | exact a0f rfl rfl rfl )))))); any_goals (apply a0k; rfl))
  | (apply a1q 0 [] [] rfl; (focus (iterate 2 (all_goals (repeat' (first | exact a0q | exact a0c | exact trivial | refine SP ?_ | refine And.intro ?_ ?_ | refine a0b ?_ ?_ | refine a0n ?_ | exact a0a _ _ ))))); (any_goals rfl))
  ))
abbrev dsB (l : List DS) : Blk := .arr true 48 11 l.length (a2x dC default l)
def quF (last at' : Int) (r : RS) : List DS := match fgF last at' r with
 | none => []
 | some (d, _) => [d]
set_option maxHeartbeats 1000000 in
theorem c6l (last at' : Int) (r : RS) (hr : 0 <= last /\ last <= 1000000000 /\ 0 <= at' /\ at' <= 1000000000) (hn : b49 r) :
  Runs Tryd.prog 76 [.ptr 0 4 0 0, .val (.int .i64 at')] [.obj (a3j last r)] (Det (.sl 1 11 0 (quF last at' r).length none) [.obj (a3j last r), dsB (quF last at' r)]) := by
 cases r with
 | none =>
  rw [show quF last at' none = [] from rfl, a58]
  refine Runs.mkObj a1a Tryd.call76 Tryd.func76 rfl Tryd.ntmps76 Tryd.results76 rfl rfl ?_
  (repeat' (first
  | refine SP ?_
  | refine a05 (by decide) ?_
  | refine a0l ?_
  | refine a2m 1 ?_
  | (apply a1q 0 [] [none] rfl; (focus (iterate 2 (all_goals (repeat' (first | exact a0c | exact trivial | refine SP ?_ | refine And.intro ?_ ?_ | refine a0b ?_ ?_ | refine a0n ?_ | exact a0a _ _ | exact a3a rfl | ((refine a52 ?_); first | with_reducible rfl | omega | ((try simp only [wS]); omega) | rfl) ))))); (any_goals rfl))
  ))
 | some v =>
  obtain ⟨d, ts⟩ := v
  obtain ⟨h0, h8⟩ := hn d ts rfl
  have hrc := b27 last at' ts hr h8
  have hfg : fgF last at' (some (d, ts)) = if 0 < rcN last at' ts then some (d, ts) else none := rfl
  unfold quF
  rw [a5h _ _ _ h0]
  generalize rcN last at' ts = n at *
  by_cases hp : 0 < n
  ·rw [hfg, if_pos hp]
   refine Runs.mkObj a1a Tryd.call76 Tryd.func76 rfl Tryd.ntmps76 Tryd.results76 rfl rfl ?_
   (repeat' (first
  | refine SP ?_
  | refine a01 (by first | exact beq_self_eq_true _ | decide) ?_
  | refine a05 (by decide) ?_
  | (apply a0g <;> intro hb <;> (try simp only [nS, nT, eq_self, reduceCtorEq] at hb) <;> (try (exfalso; omega)))
  | refine a0u (by decide +kernel) ?_
  | refine a0l ?_
  | refine OB ?_
  | refine a2m 2 ?_
  | ((first | apply a0s [some 0, some 2, some 3] (hrc)); (focus ((iterate 2 (all_goals (repeat' (first | exact a0q | exact a0c | exact trivial | refine SP ?_ | refine And.intro ?_ ?_ | refine a0b ?_ ?_ | refine a2j ?_ rfl | exact a0d rfl rfl | exact a0i rfl rfl rfl | exact a0a _ _ | exact a0f rfl rfl rfl )))))); (any_goals (first | (apply a0v; rfl) )))
  | (apply a1q 0 [some 1, some 2, some 3] [some _] rfl; (focus (iterate 2 (all_goals (repeat' (first | exact a48 rfl rfl | exact a0c | exact trivial | refine SP ?_ | refine And.intro ?_ ?_ | refine a0b ?_ ?_ | refine a0n ?_ | exact a0i rfl rfl rfl | exact a0a _ _ | exact a0f rfl rfl rfl | refine a0y ?_ ?_ | exact a2o | (apply a4e rfl; (focus (refine a0y ?_ ?_))) ))))); (any_goals rfl))
  ))
  ·rw [hfg, if_neg hp]
   refine Runs.mkObj a1a Tryd.call76 Tryd.func76 rfl Tryd.ntmps76 Tryd.results76 rfl rfl ?_
   (repeat' (first
  | refine SP ?_
  | refine a01 (by first | exact beq_self_eq_true _ | decide) ?_
  | refine a05 (by decide) ?_
  | (apply a0g <;> intro hb <;> (try simp only [nS, nT, eq_self, reduceCtorEq] at hb) <;> (try (exfalso; omega)))
  | refine a0u (by decide +kernel) ?_
  | refine a0l ?_
  | refine OB ?_
  | refine a2m 2 ?_
  | ((first | apply a0s [some 0, some 2, some 3] (hrc)); (focus ((iterate 2 (all_goals (repeat' (first | exact a0q | exact a0c | exact trivial | refine SP ?_ | refine And.intro ?_ ?_ | refine a0b ?_ ?_ | refine a2j ?_ rfl | exact a0d rfl rfl | exact a0i rfl rfl rfl | exact a0a _ _ | exact a0f rfl rfl rfl )))))); (any_goals (first | (apply a0v; rfl) )))
  | (apply a1q 0 [some 1, some 2, some 3] [none] rfl; (focus (iterate 2 (all_goals (repeat' (first | exact a48 rfl rfl | exact a0c | exact trivial | refine SP ?_ | refine And.intro ?_ ?_ | refine a0b ?_ ?_ | refine a0n ?_ | exact a0i rfl rfl rfl | exact a0a _ _ | exact a0f rfl rfl rfl | exact a3a rfl | ((refine a52 ?_); first | with_reducible rfl | omega | ((try simp only [wS]); omega) | rfl) ))))); (any_goals rfl))
  ))
end Go.Vx.L42.B
set_option maxRecDepth 100000
namespace Go.Vx.L42.B
open Go Go.Proofs Go.Vx.L42
theorem b58 {ρ : Nat -> Option Nat} {t t' e n' : Nat} {rw' : Bool} {cf cf' : Nat -> Nat -> AV} : a3n ρ (.arr false t e 0 cf) (.arr rw' t' e n' cf') := .inl ⟨rw', t', n', cf', ⟨rfl, Nat.zero_le _⟩, fun h => (by cases h), fun i hi => absurd hi (Nat.not_lt_zero i)⟩
abbrev dsR (l : List DS) : Blk := .arr false 48 11 l.length (a2x dC default l)
theorem c7r : Runs Tryd.prog 77 [.sl 0 11 0 0 none] [dsR []] (Det (.val (.int .i64 (-1))) [dsR []]) := by
 refine Runs.mk a1a Tryd.call77 Tryd.func77 rfl Tryd.ntmps77 Tryd.results77 rfl ?_
 (repeat' (first
  | refine SP ?_
  | refine a05 (by decide) ?_
  | refine a0l ?_
  | refine a2m 1 ?_
  | (apply a04 [some 0]; (focus (iterate 2 (all_goals (repeat' (first | exact b58 | exact trivial | refine SP ?_ | refine And.intro ?_ ?_ | exact a0a _ _ ))))); any_goals (apply a0h; rfl))
  ))
theorem c63 (d : DS) : Runs Tryd.prog 77 [.sl 0 11 0 1 none] [dsR [d]] (Det (.val (.int .i64 0)) [dsR [d]]) := by
 refine Runs.mk a1a Tryd.call77 Tryd.func77 rfl Tryd.ntmps77 Tryd.results77 rfl ?_
 (repeat' (first
  | refine SP ?_
  | refine a01 (by first | exact beq_self_eq_true _ | decide) ?_
  | refine a05 (by decide) ?_
  | refine a0u (by decide +kernel) ?_
  | refine a0l ?_
  | refine OB ?_
  | refine a2m 2 ?_
  | (apply a04 [some 0]; (focus (iterate 2 (all_goals (repeat' (first | exact trivial | refine SP ?_ | refine And.intro ?_ ?_ | exact a0a _ _ | refine a0y ?_ ?_ | exact a2o | (apply a4e rfl; (focus (refine a0y ?_ ?_))) ))))); any_goals (apply a0h; rfl))
  ))
def bsF (last at' : Int) (r : RS) : Option DS := (fgF last at' r).map (·.1)
set_option maxHeartbeats 1000000 in
theorem c4o (last at' : Int) (r : RS) (hr : 0 <= last /\ last <= 1000000000 /\ 0 <= at' /\ at' <= 1000000000) (hn : b49 r) :
  Runs Tryd.prog 58 [.ptr 0 4 0 0, .val (.int .i64 at')] [.obj (a3j last r)] (Det (.tup [aD ((bsF last at' r).getD default), .sb (bsF last at' r).isSome]) [.obj (a3j last r)]) := by
 have hq := c6l last at' r hr hn
 unfold quF at hq
 unfold bsF
 cases hf : fgF last at' r with
 | none =>
  rw [hf] at hq
  have h0 := c7r
  refine Runs.mk a1a Tryd.call58 Tryd.func58 rfl Tryd.ntmps58 Tryd.results58 rfl ?_
  (repeat' (first
  | refine SP ?_
  | refine a01 (by first | exact beq_self_eq_true _ | decide) ?_
  | refine a0l ?_
  | ((first | apply a0j [some 0] (hq) ); (focus ((iterate 2 (all_goals (repeat' (first | exact a0e rfl | exact a0c | exact trivial | refine SP ?_ | refine And.intro ?_ ?_ | refine a0b ?_ ?_ | exact a0d rfl rfl | exact a0a _ _ )))))); any_goals (apply a0k; rfl))
  | ((first | apply a1y (h0) ); (focus (iterate 2 (all_goals (repeat' (first | exact b58 | exact a0c | exact trivial | refine SP ?_ | refine And.intro ?_ ?_ | refine a0b ?_ ?_ | exact a0i rfl rfl rfl ))))); (try (any_goals fail)))
  | (apply a04 [some 0]; (focus (iterate 2 (all_goals (repeat' (first | exact a0e rfl | exact a0c | exact trivial | refine SP ?_ | refine And.intro ?_ ?_ | refine a0b ?_ ?_ | refine a0o ?_ | refine a3m ?_ | exact a0a _ _ | exact a1b rfl ))))); any_goals (apply a0h; rfl))
  ))
 | some v =>
  obtain ⟨d, ts⟩ := v
  rw [hf] at hq
  have h1 := c63 d
  refine Runs.mk a1a Tryd.call58 Tryd.func58 rfl Tryd.ntmps58 Tryd.results58 rfl ?_
  (repeat' (first
  | refine SP ?_
  | refine a05 (by decide) ?_
  | refine a0l ?_
  | refine OB ?_
  | ((first | apply a0j [some 0] (hq) ); (focus ((iterate 2 (all_goals (repeat' (first | exact a0e rfl | exact a0c | exact trivial | refine SP ?_ | refine And.intro ?_ ?_ | refine a0b ?_ ?_ | exact a0d rfl rfl | exact a0a _ _ )))))); any_goals (apply a0k; rfl))
  | ((first | apply a1y (h1) ); (focus (iterate 2 (all_goals (repeat' (first | exact a0c | exact trivial | refine SP ?_ | refine And.intro ?_ ?_ | refine a0b ?_ ?_ | exact a0i rfl rfl rfl | exact a0a _ _ | refine a0y ?_ ?_ | exact a2o | (apply a4e rfl; (focus (refine a0y ?_ ?_))) ))))); (try (any_goals fail)))
  | (apply a04 [some 0]; (focus (iterate 2 (all_goals (repeat' (first | exact a0e rfl | exact a0c | exact trivial | refine SP ?_ | refine And.intro ?_ ?_ | refine a0b ?_ ?_ | refine a0o ?_ | refine a3m ?_ | exact a0a _ _ | exact a1b rfl ))))); any_goals (apply a0h; rfl))
  ))
abbrev mB0 (se sp : Int) : Blk := .var [.val (.int .u64 se), .val (.int .i64 sp), .val (.int .i64 0), .val (.int .i64 0), .val (.int .i64 0), .val (.int .i64 0), .val (.int .i64 0), .val (.int .u64 0), .val (.int .i64 0), .val (.int .u64 0), .val (.int .i64 0), .val (.int .u64 0), .val (.int .i64 0), .val (.slice none 0 0)]
theorem c8i (last se sp : Int) : Runs Tryd.prog 79 [.ptr 0 4 0 0, .agg [.val (.int .u64 se), .val (.int .i64 sp)]] (c7d last) (Det (.ptr 2 14 0 0) [rvB last (.sl 1 1 0 1 none), lsB, mB0 se sp]) := by
 refine Runs.mk a1a Tryd.call79 Tryd.func79 rfl Tryd.ntmps79 Tryd.results79 rfl ?_
 (repeat' (first
  | refine SP ?_
  | refine a05 (by decide) ?_
  | refine a0l ?_
  | refine OB ?_
  | refine a2m 1 ?_
  | (apply a04 [some 0, some 4, some _]; (focus (iterate 2 (all_goals (repeat' (first | exact a48 rfl rfl | exact a0c | exact trivial | refine SP ?_ | refine And.intro ?_ ?_ | refine a0b ?_ ?_ | refine a0n ?_ | exact a0d rfl rfl | exact a0i rfl rfl rfl | exact a0a _ _ ))))); any_goals (apply a0h; rfl))
  ))
theorem c86 (last : Int) (d : DS) (ts : List Int) : Runs Tryd.prog 79 [.ptr 0 4 0 0, .agg [.val (.int .u64 d.se), .val (.int .i64 d.sp)]] (c7j last d ts) (Det (.ptr 2 14 0 0) (c7j last d ts)) := by
 refine Runs.mk a1a Tryd.call79 Tryd.func79 rfl Tryd.ntmps79 Tryd.results79 rfl ?_
 (repeat' (first
  | refine SP ?_
  | refine a01 (by first | exact beq_self_eq_true _ | decide) ?_
  | (apply a0g <;> intro hb <;> (try simp only [nS, nT, eq_self, reduceCtorEq] at hb) <;> (try (exfalso; fail; done)))
  | refine a0u (by decide +kernel) ?_
  | refine a0l ?_
  | refine OB ?_
  | refine a2m 2 ?_
  | (apply a04 [some 0, some 1, some 2, some 3]; (focus (iterate 2 (all_goals (repeat' (first | exact a48 rfl rfl | exact a0c | exact trivial | refine SP ?_ | refine And.intro ?_ ?_ | refine a0b ?_ ?_ | refine a0n ?_ | exact a0d rfl rfl | exact a0i rfl rfl rfl | exact a0a _ _ | exact a0f rfl rfl rfl ))))); any_goals (apply a0h; rfl))
  ))
end Go.Vx.L42.B
set_option maxRecDepth 100000
namespace Go.Vx.L42.B
open Go Go.Proofs Go.Vx.L42
def hrT (ts : List Int) (at' : Int) : List Int := if ts.length + 1 > 8 then (ts ++ [at']).drop 1 else ts ++ [at']
def hrF (r : RS) (d : DS) (at' : Int) : RS := match r with
  | none => some (d, [at'])
  | some (_, ts) => some (d, hrT ts at')
theorem b5j (ts : List Int) (at' : Int) (h : 0 < ts.length /\ ts.length <= 8) : 0 < (hrT ts at').length /\ (hrT ts at').length <= 8 := by
  unfold hrT
  split <;> simp <;> omega
theorem c4c {r : RS} (d : DS) (at' : Int) (h : b49 r) : b49 (hrF r d at') := by
  intro d' ts e
  cases r with
  | none => simp only [hrF, Option.some.injEq, Prod.mk.injEq] at e; obtain ⟨_, rfl⟩ := e; simp
  | some v =>
    obtain ⟨d0, ts0⟩ := v
    simp only [hrF, Option.some.injEq, Prod.mk.injEq] at e
    obtain ⟨_, rfl⟩ := e
    exact b5j ts0 at' (h d0 ts0 rfl)
theorem b8g {r : Nat -> Nat} {ts : List Int} {a : Int} : b2s a78 0 1 (ts.length + 1) (b09 ts.length (fun i j => AV.ren r (a2x a78 0 ts i j)) (fun i j => ([.val (.int .i64 a)] : List AV).getD ((0 + i) * 1 + j) .dead)) (ts ++ [a]) :=
  b9p rfl ⟨rfl, fun i hi j hj => by (obtain rfl : j = 0 := (by omega)); rfl⟩ (b90 fun j hj => by (obtain rfl : j = 0 := (by omega)); rfl)
theorem c03 {e n : Nat} {c : Nat -> Nat -> AV} {l : List Int} (h : b2s a78 0 e n c l) : b2s a78 0 e (n - 1) (fun i j => c (0 + Int.toNat 1 + i) j) (l.drop 1) := by
  obtain ⟨h1, h2⟩ := h
  refine ⟨by rw [List.length_drop, h1], fun i hi j hj => ?_⟩
  show c (0 + 1 + i) j = _
  rw [h2 (0 + 1 + i) (by omega) j hj, List.getD_eq_getElem?_getD, List.getD_eq_getElem?_getD, List.getElem?_drop, Nat.zero_add]
set_option maxHeartbeats 2000000 in
theorem c6g (last at' : Int) (r : RS) (d : DS) (hr : 0 <= last /\ last <= at' /\ 0 <= at' /\ at' <= 1000000000) (hn : b49 r) (hd : d.se ≠ d.re) (hst : d.st < 32) (ho : ∀ d0 ts, r = some (d0, ts) -> d0.se = d.se /\ d0.sp = d.sp) :
    Runs Tryd.prog 63 [.ptr 0 4 0 0, aD d, .val (.int .i64 at')] [.obj (a3j last r)] (Det (.val (.int .i64 0)) [.obj (a3j at' (hrF r d at'))]) := by
  cases r with
  | none =>
    have hf := c8i at' d.se d.sp
    rw [show hrF none d at' = some (d, [at']) from rfl, a58, a5h _ _ _ (by simp)]
    refine Runs.mkObj a1a Tryd.call63 Tryd.func63 rfl Tryd.ntmps63 Tryd.results63 rfl rfl ?_
    (repeat' (first
    | refine SP ?_
    | refine a05 (by decide) ?_
    | (apply a0g <;> intro hb <;> (try simp only [nS, nT, eq_self, reduceCtorEq] at hb) <;> (try (exfalso; omega)))
    | refine a0l ?_
    | refine OB ?_
    | ((first | apply a0j [some 0] (hf) ); (focus ((iterate 2 (all_goals (repeat' (first | exact a0c | exact trivial | refine SP ?_ | refine And.intro ?_ ?_ | refine a0b ?_ ?_ | refine a0o ?_ | refine a0n ?_ | exact a0d rfl rfl | exact a0a _ _ )))))); any_goals (apply a0k; rfl))
    | (apply a1q 0 [some _, some _, some _] [] rfl; (focus (iterate 2 (all_goals (repeat' (first | exact a48 rfl rfl | exact a0c | exact trivial | refine SP ?_ | refine And.intro ?_ ?_ | refine a0b ?_ ?_ | refine a0n ?_ | exact a0i rfl rfl rfl | exact a0a _ _ | refine a0y ?_ ?_ | exact a2o | (apply a4e rfl; (focus (refine a0y ?_ ?_))) ))))); (any_goals rfl))
    ))
  | some v =>
    obtain ⟨d0, ts⟩ := v
    obtain ⟨h0, h8⟩ := hn d0 ts rfl
    obtain ⟨e1, e2⟩ := ho d0 ts rfl
    have hf := c86 at' d0 ts
    rw [e1, e2] at hf
    have hT := b5j ts at' ⟨h0, h8⟩
    have hTT : hrT ts at' = if ts.length + 1 > 8 then (ts ++ [at']).drop 1 else ts ++ [at'] := rfl
    rw [show hrF (some (d0, ts)) d at' = some (d, hrT ts at') from rfl, a5h _ _ _ h0, a5h _ _ _ hT.1]
    generalize hrT ts at' = T at *
    by_cases h9 : ts.length + 1 > 8
    · rw [if_pos h9] at hTT
      subst hTT
      refine Runs.mkObj a1a Tryd.call63 Tryd.func63 rfl Tryd.ntmps63 Tryd.results63 rfl rfl ?_
      (repeat' (first
    | refine SP ?_
    | refine a05 (by decide) ?_
    | (apply a0g <;> intro hb <;> (try simp only [nS, nT, eq_self, reduceCtorEq] at hb) <;> (try (exfalso; omega)))
    | refine a0l ?_
    | refine OB ?_
    | ((first | apply a0j [some 0, some 1, some 2, some 3] (hf) ); (focus ((iterate 2 (all_goals (repeat' (first | exact a48 rfl rfl | exact a0c | exact trivial | refine SP ?_ | refine And.intro ?_ ?_ | refine a0b ?_ ?_ | refine a0o ?_ | refine a0n ?_ | exact a0d rfl rfl | exact a0i rfl rfl rfl | exact a0a _ _ | exact a0f rfl rfl rfl )))))); any_goals (apply a0k; rfl))
    | (apply a1q 0 [some 1, some 2, some _] [] rfl; (focus (iterate 2 (all_goals (repeat' (first | exact a48 rfl rfl | exact a0c | exact trivial | refine SP ?_ | refine And.intro ?_ ?_ | refine a0b ?_ ?_ | refine a0n ?_ | exact a0i rfl rfl rfl | exact a0a _ _ | ((first | refine a0r ?_ | refine a0i rfl rfl ?_ | show (_ : Nat) = _); first | with_reducible rfl | omega | ((try simp only [wS]); omega) | rfl) | refine a0i rfl rfl ?_ ))))); (any_goals rfl))
    ))
      · simp
      · refine c3t (L' := List.drop 1 (ts ++ [at'])) ?_ rfl rfl
        rw [show (((ts.length + 1 : Nat) : Int) - 1).toNat = ts.length + 1 - 1 by omega]
        exact c03 b8g
    · rw [if_neg h9] at hTT
      subst hTT
      refine Runs.mkObj a1a Tryd.call63 Tryd.func63 rfl Tryd.ntmps63 Tryd.results63 rfl rfl ?_
      (repeat' (first
    | refine SP ?_
    | refine a05 (by decide) ?_
    | (apply a0g <;> intro hb <;> (try simp only [nS, nT, eq_self, reduceCtorEq] at hb) <;> (try (exfalso; omega)))
    | refine a0l ?_
    | refine OB ?_
    | ((first | apply a0j [some 0, some 1, some 2, some 3] (hf) ); (focus ((iterate 2 (all_goals (repeat' (first | exact a48 rfl rfl | exact a0c | exact trivial | refine SP ?_ | refine And.intro ?_ ?_ | refine a0b ?_ ?_ | refine a0o ?_ | refine a0n ?_ | exact a0d rfl rfl | exact a0i rfl rfl rfl | exact a0a _ _ | exact a0f rfl rfl rfl )))))); any_goals (apply a0k; rfl))
    | (apply a1q 0 [some 1, some 2, some _] [] rfl; (focus (iterate 2 (all_goals (repeat' (first | exact a48 rfl rfl | exact a0c | exact trivial | refine SP ?_ | refine And.intro ?_ ?_ | refine a0b ?_ ?_ | refine a0n ?_ | exact a0i rfl rfl rfl | exact a0a _ _ | ((first | refine a0r ?_ | refine a0i rfl rfl ?_ | show (_ : Nat) = _); first | with_reducible rfl | omega | ((try simp only [wS]); omega) | rfl) | apply c0y | refine a0y ?_ ?_ | exact a2o | with_reducible rfl | refine a0i rfl rfl ?_ ))))); (any_goals rfl))
    ))
      all_goals simp
end Go.Vx.L42.B

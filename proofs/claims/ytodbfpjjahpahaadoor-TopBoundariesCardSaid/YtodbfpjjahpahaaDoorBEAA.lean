/- Lemmas of a small executor for the model, and contracts of functions, used for the law that this claim proves. No condition. -/
import Derived.Test.YtodbfpjjahpahaaDoorBEA3
set_option linter.unusedSimpArgs false
set_option linter.unusedVariables false
set_option maxRecDepth 100000
namespace Go.Vx.L42
open Go Go.Proofs
abbrev plA (v : Int × Int) : AV := .agg [.val (.int .i64 v.1), .val (.int .i64 v.2)]
structure Mm where
 node : Int
 port : Int
 age : Int
 set : DS
 deriving DecidableEq, Inhabited
abbrev meA (m : Mm) : AV := .agg (.val (.int .i64 m.node) :: .val (.int .i64 m.port) :: .val (.int .i64 m.age) :: dC m.set)
theorem a2h {g : List Int -> Int × Int} : ∀ x, FlatA ((fun k => plA (g k)) x) := fun x => by
 simp [FlatA, b63]
structure MS where
 ks : List (List Int)
 g : List Int -> Mm
abbrev mB (s : MS) : Blk := .map (some 2) s.ks (fun k => meA (s.g k))
abbrev peB (pk : List (List Int)) (gp : List Int -> Int × Int) : Blk := .map (some 2) pk (fun k => plA (gp k))
abbrev aF (ns : List Nd) (cap : Option Nat) (rs : List (List Int)) : AV := .agg [.sl 0 6 0 ns.length cap, .sl 1 1 0 rs.length none, .map 2]
abbrev fB (ns : List Nd) (rs : List (List Int)) (pk : List (List Int)) (gp : List Int -> Int × Int) : List Blk := [ndB ns, nR rs.length rs, peB pk gp]
theorem c32 (ns : List Nd) (cap : Option Nat) (rs pk : List (List Int)) (gp : List Int -> Int × Int) (x : Nat) (hx : x < ns.length) :
  Runs Tryd.prog 25 [aF ns cap rs, .val (.int .i64 x)] (fB ns rs pk gp) (Det (aD (owD (ns.getD x nd0))) (fB ns rs pk gp)) := by
 have hz : 0 + Int.toNat (x : Int) = x := by omega
 have h := b5p (ns.getD x nd0)
 generalize hO : owD (ns.getD x nd0) = O at *
 rw [<- hz] at h
 refine Runs.mk a1a Tryd.call25 Tryd.func25 rfl Tryd.ntmps25 Tryd.results25 rfl ?_
 (repeat' (first
  | refine SP ?_
  | refine a0u (by decide +kernel) ?_
  | refine a0l ?_
  | refine OB ?_
  | ((first | apply a1o (h)); (focus ((iterate 2 (all_goals (repeat' (first | exact a0c | refine a0b ?_ ?_ | refine a0o ?_ | exact a0a _ _ )))); done)))
  | (apply a04 [some 0, some 1, some 2]; (focus (iterate 2 (all_goals (repeat' (first | exact a0z rfl rfl rfl | exact a18 a2h rfl (fun _ _ => rfl) | exact a0c | exact trivial | refine SP ?_ | refine And.intro ?_ ?_ | refine a0b ?_ ?_ | refine a0o ?_ | exact a0a _ _ | exact a0f rfl rfl rfl ))))); any_goals (apply a0h; rfl))
  ))
end Go.Vx.L42
set_option maxRecDepth 100000
namespace Go.Vx.L42
open Go Go.Proofs
end Go.Vx.L42
set_option maxRecDepth 100000
namespace Go.Vx.L42
open Go Go.Proofs
structure FOK (ns : List Nd) (rs pk : List (List Int)) (gp : List Int -> Int × Int) : Prop where
 n1 : 1 <= ns.length
 n24 : ns.length <= 24
 rl : rs.length = ns.length
 row : ∀ x, x < ns.length -> (rs.getD x []).length <= 8
 prt : ∀ x p, p ∈ rs.getD x [] -> (1 <= p /\ p <= 8) /\ [(x : Int), p] ∈ pk /\ (0 <= (gp [(x : Int), p]).1 /\ (gp [(x : Int), p]).1 < ns.length) /\ (1 <= (gp [(x : Int), p]).2 /\ (gp [(x : Int), p]).2 <= 8)
 pk : ∀ k ∈ pk, ∃ (x : Nat) (p : Int), k = [(x : Int), p] /\ x < ns.length /\ p ∈ rs.getD x []
 wf : ∀ x, wfD (owD (ns.getD x nd0))
 cl : ∀ x, x < ns.length -> 127 < (ns.getD x nd0).cl
end Go.Vx.L42

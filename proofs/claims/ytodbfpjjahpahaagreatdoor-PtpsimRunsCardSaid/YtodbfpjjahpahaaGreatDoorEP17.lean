/- Lemmas of a small executor for the model, and contracts of functions, used for the law that this claim proves. No condition. -/
import Derived.Test.YtodbfpjjahpahaaGreatDoorEW3
import Derived.Test.YtodbfpjjahpahaaGreatDoorEPTB
set_option linter.unusedSimpArgs false
set_option linter.unusedVariables false
set_option maxRecDepth 100000
namespace Go.Vx.L58
open Go Go.Proofs
theorem c71 {ρ : Nat -> Option Nat} {ρ' : Nat -> Nat} {rw rw' : Bool} {t n n' y y' : Nat} {os os' : List Osc} {hd hd' : Nat -> Value} (h1 : (!rw || rw') = true) (hn : n' = n) (hos : os' = os) (hh : hd' = hd) :
  a3v ρ (.arr rw t 2 n (osF y os hd)) (.arr rw' t 2 n' fun i j => (osF y' os' hd' i j).ren ρ') := by
 subst hos hh
 refine a2o (b01 h1) hn fun i _ j _ => ?_
 cases j with
 | zero => exact a0b _ _
 | succ j => exact a54 rfl rfl
abbrev eP : List Ed := [⟨0, 1, 1, 1⟩]
abbrev nP : List Nd := [⟨1, 128, 248, 0, 0, 128⟩, ⟨2, 128, 248, 0, 0, 128⟩]
abbrev oP : List Osc := [⟨0, [⟨0, 0⟩]⟩, ⟨7, [⟨0, 0⟩]⟩]
abbrev sP (u : Int) (h : Value) : Scn := ⟨2, eP, some 1, nP, some 2, oP, some 2, fun _ => h, [100], some 1, [u], some 1, [false, false], some 2, [0, 0], some 2⟩
abbrev sPB (u : Int) (h : Value) : List Blk := [.arr true 61 4 1 (edF eP), .arr true 93 6 2 (ndF nP), .arr true 45 2 2 (osF 3 oP (fun _ => h)), .rows true 2 2 (fun _ => h) (sgR oP), iB true [100], iB true [u], .arr true 4 1 2 (a2e b9w false [false, false]), iB true [0, 0]]
theorem c3n (u : Int) : Runs Tryz.prog 19 [.val (.int .i64 u)] [] (fun V B => ∃ h : Value, V = scA (sP u h) /\ B = sPB u h) := by
 refine Runs.mk a0k Tryz.call19 Tryz.func19 rfl Tryz.ntmps19 Tryz.results19 rfl ?_
 (repeat' (first
  | refine SP ?_
  | (intro (hV : Value))
  | (apply d1a hV [some 2, some 3, some 6, some 5, some 7, some 8, some 9, some 10]; (focus (iterate 2 (all_goals (repeat' (first | exact a0g | exact trivial | refine SP ?_ | refine And.intro ?_ ?_ | refine a0d ?_ ?_ | refine a1i ?_ | exact a0r rfl rfl rfl | exact a0b _ _ | exact a0w rfl | refine a0o ?_ ?_ | exact a3c | (apply a3g rfl; (focus (refine a0o ?_ ?_))) ))))); any_goals (apply a0e; rfl))
  ))
 ·exact a2o (fun _ => rfl) rfl (a0o (a0o (a0b _ _) (a0o (a54 rfl rfl) a3c)) (a0o (a0o (a0b _ _) (a0o (a54 rfl rfl) a3c)) a3c))
 ·refine ⟨true, 1, _, _, rfl, fun _ => rfl, fun i hi => ⟨0, Nat.zero_lt_one, rfl, ?_, ?_⟩⟩
  ·have : i = 0 \/ i = 1 := by omega
   rcases this with rfl | rfl <;> rfl
  ·intro x hx j hj
   have h1 : i = 0 \/ i = 1 := by omega
   have h2 : x = 0 := by
    have : x < 1 := by rcases h1 with rfl | rfl <;> exact hx
    omega
   have h3 : j = 0 \/ j = 1 := by omega
   subst h2
   rcases h1 with rfl | rfl <;> rcases h3 with rfl | rfl <;> rfl
theorem d5s : ∀ x, wfD (owD (nP.getD x nd0)) := fun x => by
 have h : nP.getD x nd0 = ⟨1, 128, 248, 0, 0, 128⟩ \/ nP.getD x nd0 = ⟨2, 128, 248, 0, 0, 128⟩ \/ nP.getD x nd0 = nd0 := by
  rcases x with _ | _ | x
  ·exact .inl rfl
  ·exact .inr (.inl rfl)
  ·exact .inr (.inr rfl)
 rcases h with h | h | h <;> rw [h] <;> refine ⟨?_, ?_, ?_, ?_, ?_, ?_, ?_, ?_, ?_, ?_, ?_⟩ <;> first | (unfold inI owD; simp only; omega) | (unfold inU owD; simp only; omega)
theorem d1x (h : Value) : ckS (sP 100 h) = 0 := by kernel_rfl
theorem d6q (h : Value) : ckS (sP 0 h) = 0 := by kernel_rfl
theorem d2u (h : Value) : rnL (sP 100 h) 0 = [⟨0, -1, 0, 0, 0, false⟩, ⟨1, 0, 7, 7, 100, true⟩] := by kernel_rfl
theorem d6s (h : Value) : rnL (sP 0 h) 0 = [⟨0, -1, 0, 0, 0, false⟩, ⟨1, 0, 57, 7, 50, true⟩] := by kernel_rfl
theorem d6h (u : Int) (h : Value) : SOk (sP u h) := ⟨by show 1 <= maxLen; decide, by show 2 <= maxLen; decide, d5s⟩
set_option maxHeartbeats 4000000 in
theorem c6l : Runs Tryz.prog 9 [] [] (Det (.sb true) []) := by
 have p1 := c3n 100
 have p2 := c3n 0
 have r1 := fun h => (b7c (sP 100 h) (d6h 100 h) 0).2.2 (d1x h) (by omega)
 have r2 := fun h => (b7c (sP 0 h) (d6h 0 h) 0).2.2 (d6q h) (by omega)
 simp only [d2u] at r1
 simp only [d6s] at r2
 refine Runs.mk a0k Tryz.call9 Tryz.func9 rfl Tryz.ntmps9 Tryz.results9 rfl ?_
 (repeat' (first
  | refine SP ?_
  | refine a18 (by first | exact beq_self_eq_true _ | decide) ?_
  | (intro (hV : Value))
  | refine OB ?_
  | (apply b8m p1; exact AS)
  | (apply b8m p2; exact AS)
  | ((first | apply a1a [some 0, some 1, some 2, some 3, some 4, some 5, some 6, some 7] (r1 hV) ); (focus ((iterate 2 (all_goals (repeat' (first | exact a1f rfl rfl rfl rfl | exact c71 rfl rfl rfl rfl | exact a0g | exact trivial | refine SP ?_ | refine And.intro ?_ ?_ | refine a0d ?_ ?_ | refine a1i ?_ | exact a0r rfl rfl rfl | exact a0b _ _ | exact a5o rfl rfl rfl )))); done)); any_goals (apply a1j; rfl))
  | ((first | apply a1a [some 9, some 10, some 11, some 12, some 13, some 14, some 15, some 16] (r2 hV) ); (focus ((iterate 2 (all_goals (repeat' (first | exact a1f rfl rfl rfl rfl | exact c71 rfl rfl rfl rfl | exact a0g | exact trivial | refine SP ?_ | refine And.intro ?_ ?_ | refine a0d ?_ ?_ | refine a1i ?_ | exact a0r rfl rfl rfl | exact a0b _ _ | exact a5o rfl rfl rfl )))); done)); any_goals (apply a1j; rfl))
  | exact RT []
  ))
end Go.Vx.L58

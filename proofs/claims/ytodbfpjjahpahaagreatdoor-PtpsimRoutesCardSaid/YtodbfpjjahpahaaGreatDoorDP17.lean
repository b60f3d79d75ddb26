/- Lemmas of a small executor for the model, and contracts of functions, used for the law that this claim proves. No condition. -/
import Derived.Test.YtodbfpjjahpahaaGreatDoorDW3
import Derived.Test.YtodbfpjjahpahaaGreatDoorDP16
import Derived.Test.YtodbfpjjahpahaaGreatDoorDPTR
set_option linter.unusedSimpArgs false
set_option linter.unusedVariables false
set_option maxRecDepth 100000
namespace Go.Vx.L58
open Go Go.Proofs
theorem os_ren {ρ : Nat → Option Nat} {ρ' : Nat → Nat} {rw rw' : Bool} {t n n' y y' : Nat} {os os' : List Osc} {hd hd' : Nat → Value} (h1 : (!rw || rw') = true) (hn : n' = n) (hos : os' = os) (hh : hd' = hd) :
  BSub ρ (.arr rw t 2 n (osF y os hd)) (.arr rw' t 2 n' fun i j => (osF y' os' hd' i j).ren ρ') := by
 subst hos hh
 refine bsub_arr (rw_imp h1) hn fun i _ j _ => ?_
 cases j with
 | zero => exact sub_refl_val _ _
 | succ j => exact sub_rsl rfl rfl
abbrev eP : List Ed := [⟨0, 1, 1, 1⟩]
abbrev nP : List Nd := [⟨1, 128, 248, 0, 0, 128⟩, ⟨2, 128, 248, 0, 0, 128⟩]
abbrev oP : List Osc := [⟨0, [⟨0, 0⟩]⟩, ⟨7, [⟨0, 0⟩]⟩]
abbrev sP (u : Int) (h : Value) : Scn := ⟨2, eP, some 1, nP, some 2, oP, some 2, fun _ => h, [100], some 1, [u], some 1, [false, false], some 2, [0, 0], some 2⟩
abbrev sPB (u : Int) (h : Value) : List Blk := [.arr true 61 4 1 (edF eP), .arr true 93 6 2 (ndF nP), .arr true 45 2 2 (osF 3 oP (fun _ => h)), .rows true 2 2 (fun _ => h) (sgR oP), iB true [100], iB true [u], .arr true 4 1 2 (rowF boolC false [false, false]), iB true [0, 0]]
theorem pair_ok (u : Int) : Runs Tryz.prog 19 [.val (.int .i64 u)] [] (fun V B => ∃ h : Value, V = scA (sP u h) ∧ B = sPB u h) := by
 refine Runs.mk tabOK Tryz.call19 Tryz.func19 rfl Tryz.ntmps19 Tryz.results19 rfl ?_
 (repeat' (first
  | (intro Q h; refine h ?_; clear h Q)
  | (intro (hV : Value))
  | (apply retv_mk hV [some 2, some 3, some 6, some 5, some 7, some 8, some 9, some 10]; (focus (iterate 2 (all_goals (repeat' (first | exact subL_nil | exact trivial | (intro Q h; refine h ?_; clear h Q) | refine And.intro ?_ ?_ | refine subL_cons ?_ ?_ | refine sub_agg ?_ | exact sub_sl rfl rfl rfl | exact sub_refl_val _ _ | exact sub_sbl rfl | refine cells_succ ?_ ?_ | exact cell0 | (apply row_lit rfl; (focus (refine cells_succ ?_ ?_))) ))))); any_goals (apply okIx_mk; rfl))
  ))
 ·exact bsub_arr (fun _ => rfl) rfl (cells_succ (cells_succ (sub_refl_val _ _) (cells_succ (sub_rsl rfl rfl) cell0)) (cells_succ (cells_succ (sub_refl_val _ _) (cells_succ (sub_rsl rfl rfl) cell0)) cell0))
 ·refine ⟨true, 1, _, _, rfl, fun _ => rfl, fun i hi => ⟨0, Nat.zero_lt_one, rfl, ?_, ?_⟩⟩
  ·have : i = 0 ∨ i = 1 := by omega
   rcases this with rfl | rfl <;> rfl
  ·intro x hx j hj
   have h1 : i = 0 ∨ i = 1 := by omega
   have h2 : x = 0 := by
    have : x < 1 := by rcases h1 with rfl | rfl <;> exact hx
    omega
   have h3 : j = 0 ∨ j = 1 := by omega
   subst h2
   rcases h1 with rfl | rfl <;> rcases h3 with rfl | rfl <;> rfl
theorem wf_nP : ∀ x, wfD (owD (nP.getD x nd0)) := fun x => by
 have h : nP.getD x nd0 = ⟨1, 128, 248, 0, 0, 128⟩ ∨ nP.getD x nd0 = ⟨2, 128, 248, 0, 0, 128⟩ ∨ nP.getD x nd0 = nd0 := by
  rcases x with _ | _ | x
  ·exact .inl rfl
  ·exact .inr (.inl rfl)
  ·exact .inr (.inr rfl)
 rcases h with h | h | h <;> rw [h] <;> refine ⟨?_, ?_, ?_, ?_, ?_, ?_, ?_, ?_, ?_, ?_, ?_⟩ <;> first | (unfold inI owD; simp only; omega) | (unfold inU owD; simp only; omega)
theorem ckP100 (h : Value) : ckS (sP 100 h) = 0 := by kernel_rfl
theorem ckP0 (h : Value) : ckS (sP 0 h) = 0 := by kernel_rfl
theorem rnP100 (h : Value) : rnL (sP 100 h) 0 = [⟨0, -1, 0, 0, 0, false⟩, ⟨1, 0, 7, 7, 100, true⟩] := by kernel_rfl
theorem rnP0 (h : Value) : rnL (sP 0 h) 0 = [⟨0, -1, 0, 0, 0, false⟩, ⟨1, 0, 57, 7, 50, true⟩] := by kernel_rfl
theorem sokP (u : Int) (h : Value) : SOk (sP u h) := ⟨by show 1 ≤ maxLen; decide, by show 2 ≤ maxLen; decide, wf_nP⟩
set_option maxHeartbeats 4000000 in
theorem awake_ok : Runs Tryz.prog 9 [] [] (Det (.sb true) []) := by
 have p1 := pair_ok 100
 have p2 := pair_ok 0
 have r1 := fun h => (run_ok' (sP 100 h) (sokP 100 h) 0).2.2 (ckP100 h) (by omega)
 have r2 := fun h => (run_ok' (sP 0 h) (sokP 0 h) 0).2.2 (ckP0 h) (by omega)
 simp only [rnP100] at r1
 simp only [rnP0] at r2
 refine Runs.mk tabOK Tryz.call9 Tryz.func9 rfl Tryz.ntmps9 Tryz.results9 rfl ?_
 (repeat' (first
  | (intro Q h; refine h ?_; clear h Q)
  | refine bcase_t (by first | exact beq_self_eq_true _ | decide) ?_
  | (intro (hV : Value))
  | refine And.intro (by first | omega | ((try simp only [wS]); omega) | rfl | decide) ?_
  | (apply callv_mk p1; exact AS)
  | (apply callv_mk p2; exact AS)
  | ((first | apply call_detx [some 0, some 1, some 2, some 3, some 4, some 5, some 6, some 7] (r1 hV) ); (focus ((iterate 2 (all_goals (repeat' (first | exact rows_same rfl rfl rfl rfl | exact os_ren rfl rfl rfl rfl | exact subL_nil | exact trivial | (intro Q h; refine h ?_; clear h Q) | refine And.intro ?_ ?_ | refine subL_cons ?_ ?_ | refine sub_agg ?_ | exact sub_sl rfl rfl rfl | exact sub_refl_val _ _ | exact row_ren rfl rfl rfl )))); done)); any_goals (apply nodup_mk; rfl))
  | ((first | apply call_detx [some 9, some 10, some 11, some 12, some 13, some 14, some 15, some 16] (r2 hV) ); (focus ((iterate 2 (all_goals (repeat' (first | exact rows_same rfl rfl rfl rfl | exact os_ren rfl rfl rfl rfl | exact subL_nil | exact trivial | (intro Q h; refine h ?_; clear h Q) | refine And.intro ?_ ?_ | refine subL_cons ?_ ?_ | refine sub_agg ?_ | exact sub_sl rfl rfl rfl | exact sub_refl_val _ _ | exact row_ren rfl rfl rfl )))); done)); any_goals (apply nodup_mk; rfl))
  | (apply ret_mk []; exact AS; any_goals (apply okIx_mk; rfl))
  ))
end Go.Vx.L58

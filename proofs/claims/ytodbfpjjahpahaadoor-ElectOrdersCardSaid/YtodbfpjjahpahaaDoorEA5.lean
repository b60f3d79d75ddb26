/- Lemmas of a small executor for the model, and contracts of functions, used for the law that this claim proves. No condition. -/
import Derived.Test.YtodbfpjjahpahaaDoorEA4
set_option linter.unusedSimpArgs false
set_option linter.unusedVariables false
set_option maxRecDepth 100000
namespace Go.Vx.L42
open Go Go.Proofs
/-- A memo that can be. -/
def vlM (ns : List Nd) (pk : List (List Int)) (m : Mm) : Bool := decide (pk.contains [m.node, m.port] = true ∧ (0 ≤ m.age ∧ m.age < 3) ∧ (0 ≤ m.set.st ∧ m.set.st < 32) ∧ [m.set.p1, m.set.cl, m.set.ac, m.set.va, m.set.p2, m.set.sp, m.set.rp].all wrd = true ∧ m.set.re = (ns.getD m.node.toNat nd0).id ∧ m.set.rp = m.port)
set_option maxHeartbeats 4000000 in
theorem valid_ok (ns : List Nd) (cap : Option Nat) (rs pk : List (List Int)) (gp : List Int → Int × Int) (hpk : ∀ a p : Int, [a, p] ∈ pk → 0 ≤ a ∧ a < ns.length) (m : Mm) :
    Runs Tryd.prog 64 [aF ns cap rs, meA m] (fB ns rs pk gp) (Det (.sb (vlM ns pk m)) (fB ns rs pk gp)) := by
  have hwo := words_ok [m.set.p1, m.set.cl, m.set.ac, m.set.va, m.set.p2, m.set.sp, m.set.rp] (some 7) (by simp)
  have hnd : pk.contains [m.node, m.port] = true → 0 ≤ m.node ∧ m.node < ns.length := fun h => hpk _ _ (by simpa using h)
  have hv : ∀ b, (vlM ns pk m = b) = (vlM ns pk m = b) := fun _ => rfl
  cases hc : pk.contains [m.node, m.port]
  · have hh := hc
    have e : vlM ns pk m = false := decide_eq_false (fun h => by rw [hc] at h; cases h.1)
    rw [e]
    refine Runs.mk tabOK Tryd.call64 Tryd.func64 rfl Tryd.ntmps64 Tryd.results64 rfl ?_
    (repeat' (first
    | (intro Q h; refine h ?_; clear h Q)
    | (refine bcase_mk (fun hb => ?_) (fun hb => ?_) <;> (try simp only [nS, nT, eq_self, reduceCtorEq] at hb) <;> (try (exfalso; (first | (rw [hh] at hb; cases hb)); done)))
    | refine seq_go ?_
    | (apply ret_mk [some 0, some 1, some 2]; (focus (iterate 2 (all_goals (repeat' (first | exact fam_same rfl rfl rfl | exact mapa_same plA_flat rfl (fun _ _ => rfl) | exact trivial | (intro Q h; refine h ?_; clear h Q) | refine And.intro ?_ ?_ | exact sub_sbl rfl | exact row_same rfl rfl rfl ))))); (any_goals (apply okIx_mk; rfl)))
    ))
  · have hh := hc
    obtain ⟨n0, n1⟩ := hnd hc
    cases hw : [m.set.p1, m.set.cl, m.set.ac, m.set.va, m.set.p2, m.set.sp, m.set.rp].all wrd
    · have e : vlM ns pk m = false := decide_eq_false (fun h => by rw [hw] at h; cases h.2.2.2.1)
      rw [hw] at hwo
      rw [e]
      refine Runs.mk tabOK Tryd.call64 Tryd.func64 rfl Tryd.ntmps64 Tryd.results64 rfl ?_
      (repeat' (first
    | (intro Q h; refine h ?_; clear h Q)
    | (with_reducible refine bcase_false ?_)
    | (refine bcase_mk (fun hb => ?_) (fun hb => ?_) <;> (try simp only [nS, nT, eq_self, reduceCtorEq] at hb) <;> (try (exfalso; (first | (rw [hh] at hb; cases hb)); done)))
    | refine draw_mk (by decide +kernel) ?_
    | refine seq_go ?_
    | ((first | apply calld1 (hwo)); (focus (iterate 2 (all_goals (repeat' (first | exact subL_nil | exact trivial | (intro Q h; refine h ?_; clear h Q) | refine And.intro ?_ ?_ | refine subL_cons ?_ ?_ | exact sub_sl rfl rfl rfl | exact sub_refl_val _ _ | refine cells_succ ?_ ?_ | exact cell0 | (apply row_lit rfl; (focus (refine cells_succ ?_ ?_))) ))))); (try (any_goals (first | (apply nodup_mk3; rfl)))))
    | (apply ret_mk [some 0, some 1, some 2]; (focus (iterate 2 (all_goals (repeat' (first | exact fam_same rfl rfl rfl | exact mapa_same plA_flat rfl (fun _ _ => rfl) | exact trivial | (intro Q h; refine h ?_; clear h Q) | refine And.intro ?_ ?_ | exact sub_sbl rfl | exact row_same rfl rfl rfl ))))); (any_goals (apply okIx_mk; rfl)))
    ))
    · have e : vlM ns pk m = decide ((0 ≤ m.age ∧ m.age < 3) ∧ (0 ≤ m.set.st ∧ m.set.st < 32) ∧ m.set.re = (ns.getD (0 + m.node.toNat) nd0).id ∧ m.set.rp = m.port) := by
        unfold vlM; rw [hc, hw, Nat.zero_add]; simp
      rw [hw] at hwo
      rw [e]
      clear e hv hnd hpk hw hc
      refine Runs.mk tabOK Tryd.call64 Tryd.func64 rfl Tryd.ntmps64 Tryd.results64 rfl ?_
      (repeat' (first
    | (intro Q h; refine h ?_; clear h Q)
    | (with_reducible refine bcase_true ?_)
    | (refine bcase_mk (fun hb => ?_) (fun hb => ?_) <;> (try simp only [nS, nT, eq_self, reduceCtorEq] at hb) <;> (try (exfalso; (first | (rw [hh] at hb; cases hb)); done)))
    | refine draw_mk (by decide +kernel) ?_
    | refine seq_go ?_
    | refine And.intro (by first | omega | ((try simp only [wS]); omega) | rfl | decide) ?_
    | ((first | apply calld1 (hwo)); (focus (iterate 2 (all_goals (repeat' (first | exact subL_nil | exact trivial | (intro Q h; refine h ?_; clear h Q) | refine And.intro ?_ ?_ | refine subL_cons ?_ ?_ | exact sub_sl rfl rfl rfl | exact sub_refl_val _ _ | refine cells_succ ?_ ?_ | exact cell0 | (apply row_lit rfl; (focus (refine cells_succ ?_ ?_))) ))))); (try (any_goals (first | (apply nodup_mk3; rfl)))))
    | (apply ret_mk [some 0, some 1, some 2]; (focus (iterate 2 (all_goals (repeat' (first | exact fam_same rfl rfl rfl | exact mapa_same plA_flat rfl (fun _ _ => rfl) | exact trivial | (intro Q h; refine h ?_; clear h Q) | refine And.intro ?_ ?_ | exact row_same rfl rfl rfl | refine sub_sbl ?_ ))))); (any_goals (apply okIx_mk; rfl)))
    ))
      all_goals first
        | exact (decide_eq_true (by omega)).symm
        | exact (decide_eq_false (by omega)).symm
        | (simp_all; done)
        | fail
theorem bT {b : Bool} (h : b ≠ false) : b = true := by simpa using h
/-- What a port sends, and whether it sends. -/
def sntF (i j : Int) (p q : Int) (o f : DS) : DS × Bool :=
  if f = o then ({ o with se := i, sp := p, re := j, rp := q }, true) else if f.st + 1 < 32 then ({ f with st := f.st + 1, se := i, sp := p, re := j, rp := q }, true) else (default, false)
set_option maxHeartbeats 4000000 in
theorem sent_ok (ns : List Nd) (cap : Option Nat) (rs pk : List (List Int)) (gp : List Int → Int × Int) (x y p q : Int) (hx : 0 ≤ x ∧ x < ns.length) (hy : 0 ≤ y ∧ y < ns.length) (o f : DS) (hf : 0 ≤ f.st ∧ f.st < 32) :
    Runs Tryd.prog 66 [aF ns cap rs, plA (x, p), plA (y, q), aD o, aD f] (fB ns rs pk gp) (Det (.tup [aD (sntF (ns.getD x.toNat nd0).id (ns.getD y.toNat nd0).id p q o f).1, .sb (sntF (ns.getD x.toNat nd0).id (ns.getD y.toNat nd0).id p q o f).2]) (fB ns rs pk gp)) := by
  have hst := step_ok f (ns.getD x.toNat nd0).id p (ns.getD y.toNat nd0).id q hf.1 hf.2
  by_cases h1 : f = o
  · subst h1
    have e : sntF (ns.getD x.toNat nd0).id (ns.getD y.toNat nd0).id p q f f = ({ f with se := (ns.getD x.toNat nd0).id, sp := p, re := (ns.getD y.toNat nd0).id, rp := q }, true) := by unfold sntF; rw [if_pos rfl]
    rw [e]
    rw [← Nat.zero_add x.toNat, ← Nat.zero_add y.toNat]
    refine Runs.mk tabOK Tryd.call66 Tryd.func66 rfl Tryd.ntmps66 Tryd.results66 rfl ?_
    (repeat' (first
    | (intro Q h; refine h ?_; clear h Q)
    | (refine bcase_mk (fun hb => ?_) (fun hb => ?_) <;> (try simp only [nS, nT, eq_self, reduceCtorEq] at hb) <;> (try (exfalso; fail; done)))
    | refine draw_mk (by decide +kernel) ?_
    | refine seq_go ?_
    | refine And.intro (by first | omega | ((try simp only [wS]); omega) | rfl | decide) ?_
    | (apply ret_mk [some 0, some 1, some 2]; (focus (iterate 2 (all_goals (repeat' (first | exact fam_same rfl rfl rfl | exact mapa_same plA_flat rfl (fun _ _ => rfl) | exact subL_nil | exact trivial | (intro Q h; refine h ?_; clear h Q) | refine And.intro ?_ ?_ | refine subL_cons ?_ ?_ | refine sub_agg ?_ | refine sub_tup ?_ | exact sub_refl_val _ _ | exact sub_sbl rfl | exact row_same rfl rfl rfl ))))); (any_goals (apply okIx_mk; rfl)))
    ))
  · have hne : ¬ (f.p1 = o.p1 ∧ f.cl = o.cl ∧ f.ac = o.ac ∧ f.va = o.va ∧ f.p2 = o.p2 ∧ f.gm = o.gm ∧ f.st = o.st ∧ f.se = o.se ∧ f.sp = o.sp ∧ f.re = o.re ∧ f.rp = o.rp) := fun ⟨a1, a2, a3, a4, a5, a6, a7, a8, a9, a10, a11⟩ => h1 (by cases f; cases o; simp_all)
    by_cases h2 : f.st + 1 < 32
    · have e : sntF (ns.getD x.toNat nd0).id (ns.getD y.toNat nd0).id p q o f = ({ f with st := f.st + 1, se := (ns.getD x.toNat nd0).id, sp := p, re := (ns.getD y.toNat nd0).id, rp := q }, true) := by unfold sntF; rw [if_neg h1, if_pos h2]
      rw [e]
      generalize hD : ({ f with st := f.st + 1, se := (ns.getD x.toNat nd0).id, sp := p, re := (ns.getD y.toNat nd0).id, rp := q } : DS) = D at *
      have hDs : D.st = f.st + 1 := by rw [← hD]
      rw [← Nat.zero_add x.toNat, ← Nat.zero_add y.toNat] at hst
      refine Runs.mk tabOK Tryd.call66 Tryd.func66 rfl Tryd.ntmps66 Tryd.results66 rfl ?_
      (repeat' (first
    | (intro Q h; refine h ?_; clear h Q)
    | (refine bcase_mk (fun hb => ?_) (fun hb => ?_) <;> (try simp only [nS, nT, eq_self, reduceCtorEq] at hb) <;> (try (exfalso; (first | omega ); done)))
    | refine draw_mk (by decide +kernel) ?_
    | refine seq_go ?_
    | refine And.intro (by first | omega | ((try simp only [wS]); omega) | rfl | decide) ?_
    | ((first | apply call0 (hst) ); (focus (iterate 2 (all_goals (repeat' (first | exact subL_nil | refine subL_cons ?_ ?_ | refine sub_agg ?_ | exact sub_refl_val _ _ ))))))
    | (apply ret_mk [some 0, some 1, some 2]; (focus (iterate 2 (all_goals (repeat' (first | exact fam_same rfl rfl rfl | exact mapa_same plA_flat rfl (fun _ _ => rfl) | exact subL_nil | exact trivial | (intro Q h; refine h ?_; clear h Q) | refine And.intro ?_ ?_ | refine subL_cons ?_ ?_ | refine sub_agg ?_ | refine sub_tup ?_ | exact sub_refl_val _ _ | exact sub_sbl rfl | exact row_same rfl rfl rfl ))))); (any_goals (apply okIx_mk; rfl)))
    ))
    · have e : sntF (ns.getD x.toNat nd0).id (ns.getD y.toNat nd0).id p q o f = (default, false) := by unfold sntF; rw [if_neg h1, if_neg h2]
      rw [e]
      generalize hD : ({ f with st := f.st + 1, se := (ns.getD x.toNat nd0).id, sp := p, re := (ns.getD y.toNat nd0).id, rp := q } : DS) = D at *
      have hDs : D.st = f.st + 1 := by rw [← hD]
      rw [← Nat.zero_add x.toNat, ← Nat.zero_add y.toNat] at hst
      refine Runs.mk tabOK Tryd.call66 Tryd.func66 rfl Tryd.ntmps66 Tryd.results66 rfl ?_
      (repeat' (first
    | (intro Q h; refine h ?_; clear h Q)
    | (refine bcase_mk (fun hb => ?_) (fun hb => ?_) <;> (try simp only [nS, nT, eq_self, reduceCtorEq] at hb) <;> (try (exfalso; (first | omega ); done)))
    | refine draw_mk (by decide +kernel) ?_
    | refine seq_go ?_
    | refine And.intro (by first | omega | ((try simp only [wS]); omega) | rfl | decide) ?_
    | ((first | apply call0 (hst) ); (focus (iterate 2 (all_goals (repeat' (first | exact subL_nil | refine subL_cons ?_ ?_ | refine sub_agg ?_ | exact sub_refl_val _ _ ))))))
    | (apply ret_mk [some 0, some 1, some 2]; (focus (iterate 2 (all_goals (repeat' (first | exact fam_same rfl rfl rfl | exact mapa_same plA_flat rfl (fun _ _ => rfl) | exact subL_nil | exact trivial | (intro Q h; refine h ?_; clear h Q) | refine And.intro ?_ ?_ | refine subL_cons ?_ ?_ | refine sub_agg ?_ | refine sub_tup ?_ | exact sub_refl_val _ _ | exact sub_sbl rfl | exact row_same rfl rfl rfl ))))); (any_goals (apply okIx_mk; rfl)))
    ))
end Go.Vx.L42

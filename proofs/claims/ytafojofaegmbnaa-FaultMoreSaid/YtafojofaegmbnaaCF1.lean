/- Lemmas of a small executor for the model, and contracts of functions, used for the law that this claim proves. No condition. -/
import Derived.Test.YtafojofaegmbnaaCT55
import Derived.Test.YtafojofaegmbnaaCW3
import Derived.Handy
import Derived.Tactics
import Derived.Tactics2
import Derived.Defers
import Derived.Recover
import Derived.WalkSmall
set_option linter.unusedSimpArgs false
set_option linter.unusedVariables false
set_option maxRecDepth 100000
namespace Go.Vx.L55
open Go Go.Proofs
theorem must_ok : Runs Try.prog 57 [.val (.int .i64 0)] [] (Det (.tup []) []) := by
  refine Runs.mk tabOK Try.call57 Try.func57 rfl Try.ntmps57 Try.results57 rfl ?_
  (repeat' (first
    | (intro Q h; refine h ?_; clear h Q)
    | (with_reducible refine bcase_true ?_)
    | (with_reducible refine bcase_false ?_)
    | (refine bcase_mk (fun hb => ?_) (fun hb => ?_) <;> (try simp only [nS, nT, eq_self, reduceCtorEq] at hb))
    | refine nil_mk (fun hz => ?_) ?_
    | refine draw_mk (by decide +kernel) ?_
    | refine seq_go ?_
    | refine And.intro (by first | omega | ((try simp only [wS]); omega) | rfl | decide) ?_
    | (apply ret_mk []; (focus (iterate 2 (all_goals (repeat' (first | exact sub_dead | exact subL_nil | exact trivial | (intro Q h; refine h ?_; clear h Q) | refine And.intro ?_ ?_ | refine subL_cons ?_ ?_ | refine sub_agg ?_ | refine sub_tup ?_ | refine sub_fn ?_ | refine sub_bfn ?_ ?_ | refine var_mk ?_ | refine rd_var ?_ rfl | refine rd_rd ?_ | exact sub_ptr rfl rfl | exact sub_sl rfl rfl rfl | exact sub_refl_val _ _ | exact sub_sb rfl | exact sub_sbl rfl | exact row_same rfl rfl rfl | exact row_ren rfl rfl rfl | exact sub_nil rfl | ((first | refine sub_int ?_ | refine sub_sl rfl rfl ?_ | refine sub_nil ?_ | refine virt_mk ?_ | show (_ : Nat) = _); first | with_reducible rfl | omega | ((try simp only [wS]); omega) | rfl) | apply row_app1 | apply row_app2 | apply row_app1r | refine cells_succ ?_ ?_ | exact cell0 | with_reducible rfl | (refine And.left (b := True) ⟨?_, True.intro⟩; assumption) | refine sub_int ?_ | refine sub_sb ?_ | refine sub_sbl ?_ | refine sub_sl rfl rfl ?_ | (apply row_lit rfl; (focus (refine cells_succ ?_ ?_))) | refine row_same rfl ?_ ?_ | refine row_ren rfl ?_ ?_))))); (any_goals (apply okIx_mk; rfl)))
    | omega))
theorem must_pan (e : Int) (he : e ≠ 0) : Pans Try.prog 57 [.val (.int .i64 e)] [] := by
  refine ⟨Try.call57, fun w ι cs hw hd ha => ?_⟩
  obtain ⟨c, r, rfl, h1, h2⟩ := ha
  simp only [relL] at h2
  subst h2
  simp only [rel] at h1
  subst h1
  go_enter Try.func57, Try.ntmps57
  go_wp2
  exact ⟨rfl, ⟨_, _, rfl⟩, hw⟩
theorem rec_pan (u : TypeId) (pv : Value) (older : List PanicEntry) (w : World) :
    CallsD Try.prog 81 #[] (.panicking ({ v := .iface u pv, recovered := false } :: older)) w fun e u' w' =>
      e = .returned (.tuple #[]) ∧ u' = .panicking ({ v := .iface u pv, recovered := true } :: older) ∧ w' = w := by
  refine callsD_of_wpS Try.func81 rfl fun c₀ cs hu => ?_
  apply wpS_region
  simp [wpOpsS, go_sem, recoverD, hu, Try.ntmps81, Exit.thenS, bodyPostS, results, Try.results81]
theorem rec_idle (w : World) :
    CallsD Try.prog 81 #[] .returning w fun e u' w' => e = .returned (.tuple #[]) ∧ u' = .returning ∧ w' = w := by
  refine callsD_of_wpS Try.func81 rfl fun c₀ cs hu => ?_
  apply wpS_region
  simp [wpOpsS, go_sem, recoverD, hu, Try.ntmps81, Exit.thenS, bodyPostS, results, Try.results81]
  cases c₀
  simp_all
/-- Part of attempt: the part returns. -/
theorem attempt_ret {c : FuncId} {caps : List AV} {L : List Blk} {R : AV → List Blk → Prop} (h : Runs Try.prog c caps L R) : Runs Try.prog 51 [.fn (.func c) caps] L (fun V B => V = .tup [] ∧ ∃ V', R V' B) := by
  refine ⟨Try.call51, fun w ι cs hw hd ha => ?_⟩
  obtain ⟨c0, r, rfl, h1, h2⟩ := ha
  simp only [relL] at h2
  subst h2
  simp only [rel] at h1
  obtain ⟨us, rfl, hus⟩ := h1
  have hc := h.2 w ι us hw hd hus
  have hcf := h.1
  go_enter_defers Try.func51, Try.ntmps51
  go_wp2
  refine hc.mono ?_
  rintro e w' ⟨V, Bl, v, ι', rfl, hR, k1, k2, k3, k4, k5, k6⟩
  go_wp2
  refine leaves_cons (f := 81) (args := #[]) (by simp) (by simp [go_sem]) ?_
  refine (rec_idle _).mono ?_
  rintro e u' w'' ⟨rfl, rfl, rfl⟩
  simp [Leaves, settle, results, Try.results51, go_sem]
  exact ⟨.tup [], Bl, ⟨rfl, V, hR⟩, k1, ι', ⟨[], rfl, by simp [relL]⟩, k3, k4, k5, k6⟩
theorem attempt_pan {c : FuncId} {caps : List AV} {L : List Blk} (h : Pans Try.prog c caps L) (hrw : ∀ b, (blL L b).live = true → b < L.length) : Runs Try.prog 51 [.fn (.func c) caps] L (Det (.tup []) L) := by
  refine ⟨Try.call51, fun w ι cs hw hd ha => ?_⟩
  obtain ⟨c0, r, rfl, h1, h2⟩ := ha
  simp only [relL] at h2
  subst h2
  simp only [rel] at h1
  obtain ⟨us, rfl, hus⟩ := h1
  have hc := h.2 w ι us hw hd hus
  have hcf := h.1
  go_enter_defers Try.func51, Try.ntmps51
  go_wp2
  refine hc.mono ?_
  rintro e w' ⟨⟨u, pv, rfl⟩, hw'⟩
  go_wp2
  refine leaves_cons (f := 81) (args := #[]) (by simp) (by simp [go_sem]) ?_
  refine (rec_pan _ _ _ _).mono ?_
  rintro e u' w'' ⟨rfl, rfl, rfl⟩
  simp [Leaves, settle, results, Try.results51, go_sem]
  refine ⟨.tup [], L, ⟨rfl, rfl⟩, Nat.le_refl _, ι, ⟨[], rfl, by simp [relL]⟩, fun _ _ => rfl, hd, fun b hb => ?_, hw'⟩
  by_cases hr : (blL L b).rw = true
  · exact .inl hr
  · exact .inr ⟨hrw b hb, by simpa using hr⟩
/-- The same, of a part with one answer. -/
theorem attempt_det {c : FuncId} {caps : List AV} {L : List Blk} {V : AV} {B : List Blk} (h : Runs Try.prog c caps L (Det V B)) : Runs Try.prog 51 [.fn (.func c) caps] L (Det (.tup []) B) :=
  (attempt_ret h).mono fun V B ⟨h1, V', h2, h3⟩ => ⟨h1, h3⟩
end Go.Vx.L55

/- Lemmas of a small executor for the model, and contracts of functions, used for the law that this claim proves. No condition. -/
import Derived.Test.YtgpgmoodfnamjaaBB9
import Derived.Test.YtgpgmoodfnamjaaBB11
import Derived.Test.YtgpgmoodfnamjaaBB14
set_option linter.unusedSimpArgs false
set_option linter.unusedVariables false
set_option maxRecDepth 100000
namespace Go.Vx.L18
open Go Go.Proofs
abbrev GE : List Ed := [⟨0, 1, 2, 1⟩, ⟨3, 1, 2, 2⟩, ⟨0, 2, 1, 1⟩]
def litOK (c : Nat → Nat → AV) : Nat → List Int → Prop
  | _, [] => True
  | k, a :: r => c k 0 = .val (.int .i64 a) ∧ litOK c (k + 1) r
theorem litOK_get {c : Nat → Nat → AV} : ∀ (l : List Int) (k : Nat), litOK c k l → ∀ i, i < l.length → c (k + i) 0 = .val (.int .i64 (l.getD i 0))
  | [], _, _, i, hi => absurd hi (by simp)
  | a :: r, k, h, 0, _ => h.1
  | a :: r, k, h, i + 1, hi => by
    have := litOK_get r (k + 1) h.2 i (by simpa using hi)
    rw [show k + (i + 1) = k + 1 + i by omega, this]; rfl
theorem lit_sub {ρ : Nat → Option Nat} {l : List Int} {m : Nat} {c : Nat → Nat → AV} (hm : m = l.length) (h : litOK c 0 l) : BSub ρ (iB true l) (.arr true 3 1 m c) :=
  bsub_arr (fun _ => rfl) hm (fun i hi j hj => by
    obtain rfl : j = 0 := by omega
    have := litOK_get l 0 h i hi
    rw [Nat.zero_add] at this
    show sub ρ (.val (.int .i64 (l.getD i 0))) (c i 0)
    rw [this]
    exact sub_refl_val _ _)
abbrev HE : List Ed := []
theorem litf_sub {ρ : Nat → Option Nat} {l : List Int} {m : Nat} {c : Nat → Nat → AV} (hm : m = l.length) (h : litOK c 0 l) : BSub ρ (iB false l) (.arr true 3 1 m c) :=
  bsub_arr (fun h => by cases h) hm (fun i hi j hj => by
    obtain rfl : j = 0 := by omega
    have := litOK_get l 0 h i hi
    rw [Nat.zero_add] at this
    show sub ρ (.val (.int .i64 (l.getD i 0))) (c i 0)
    rw [this]
    exact sub_refl_val _ _)
def edLit (c : Nat → Nat → AV) : Nat → List Ed → Prop
  | _, [] => True
  | k, e :: r => c k 0 = .val (.int .i64 e.a) ∧ c k 1 = .val (.int .i64 e.pa) ∧ c k 2 = .val (.int .i64 e.b) ∧ c k 3 = .val (.int .i64 e.pb) ∧ edLit c (k + 1) r
theorem edLit_get {ρ : Nat → Option Nat} {c : Nat → Nat → AV} : ∀ (l : List Ed) (k : Nat), edLit c k l → ∀ i, i < l.length → ∀ j, j < 4 → sub ρ (nth (edC (l.getD i ed0)) j) (c (k + i) j)
  | [], _, _, i, hi => absurd hi (by simp)
  | a :: r, k, h, 0, _ => fun j hj => by
    obtain ⟨h0, h1, h2, h3, _⟩ := h
    obtain rfl | rfl | rfl | rfl : j = 0 ∨ j = 1 ∨ j = 2 ∨ j = 3 := by omega
    all_goals simp only [Nat.add_zero, h0, h1, h2, h3]; exact sub_refl_val _ _
  | a :: r, k, h, i + 1, hi => by
    have := edLit_get (ρ := ρ) r (k + 1) h.2.2.2.2 i (by simpa using hi)
    rw [show k + (i + 1) = k + 1 + i by omega]; exact this
theorem ed_sub {ρ : Nat → Option Nat} {l : List Ed} {m : Nat} {c : Nat → Nat → AV} (hm : m = l.length) (h : edLit c 0 l) : BSub ρ (gB l) (.arr true 37 4 m c) :=
  bsub_arr (fun h => by cases h) hm (fun i hi j hj => by
    have := edLit_get (ρ := ρ) l 0 h i hi j hj
    rwa [Nat.zero_add] at this)
theorem eqs_ok (l : List Int) (cap cap' : Option Nat) (hl : l.length ≤ maxLen) :
    Runs Try.prog 14 [.sl 0 1 0 l.length cap, .sl 1 1 0 l.length cap'] [iB false l, iB false l] (Det (.sb true) [iB false l, iB false l]) := by
  have := equal_ok l l cap cap' hl hl
  rwa [decide_eq_true (rfl : l = l)] at this
theorem edGE : ∀ e ∈ GE, edOK 4 e := by unfold edOK; decide
theorem edHE : ∀ e ∈ HE, edOK 2 e := by unfold edOK; decide
theorem dsG0 : dsF 4 GE 0 = [0, 1, 1, 2] := (rdF_eq edGE (by decide) (by decide)).symm.trans (by decide +kernel)
theorem dsG1 : dsF 4 GE 1 = [1, 0, 2, 3] := (rdF_eq edGE (by decide) (by decide)).symm.trans (by decide +kernel)
theorem dsG2 : dsF 4 GE 2 = [1, 2, 0, 1] := (rdF_eq edGE (by decide) (by decide)).symm.trans (by decide +kernel)
theorem dsG3 : dsF 4 GE 3 = [2, 3, 1, 0] := (rdF_eq edGE (by decide) (by decide)).symm.trans (by decide +kernel)
theorem dsH0 : dsF 2 HE 0 = [0, -1] := (rdF_eq edHE (by decide) (by decide)).symm.trans (by decide +kernel)
theorem dsH1 : dsF 2 HE 1 = [-1, 0] := (rdF_eq edHE (by decide) (by decide)).symm.trans (by decide +kernel)
theorem ckGE : ckC 4 GE = 0 := by decide +kernel
theorem ckHE : ckC 2 HE = 0 := by decide +kernel
theorem dist_g3 (cap : Option Nat) : Runs Try.prog 15 [gA 4 GE cap, .val (.int .i64 3)] [gB GE] (Det (.sl 1 1 0 4 none) [gB GE, iB true [2, 3, 1, 0]]) := by
  have := dist_ok 4 GE cap (by decide) 3
  have e : dsA 4 GE 3 = [2, 3, 1, 0] := (dsA_node (n := 4) ckGE (i := 3) (by decide)).trans dsG3
  rwa [e] at this
theorem dist_h (cap : Option Nat) : Runs Try.prog 15 [gA 2 HE cap, .val (.int .i64 0)] [gB HE] (Det (.sl 1 1 0 2 none) [gB HE, iB true [0, -1]]) := by
  have := dist_ok 2 HE cap (by decide) 0
  have e : dsA 2 HE 0 = [0, -1] := (dsA_node (n := 2) ckHE (i := 0) (by decide)).trans dsH0
  rwa [e] at this
theorem path_g (cap : Option Nat) : Runs Try.prog 19 [gA 4 GE cap, .val (.int .i64 3), .val (.int .i64 1)] [gB GE] (Det (.sl 1 1 0 4 none) [gB GE, iB true [3, 2, 0, 1]]) := by
  have := path_ok 4 GE cap (by decide) 3 1
  have e : ptA 4 GE 3 1 = [3, 2, 0, 1] := by
    unfold ptA
    rw [if_pos (by decide +kernel)]
    show ptF 4 GE 3 1 = _
    unfold ptF
    rw [dsG1]
    decide +kernel
  rwa [e] at this
theorem comp_h (cap : Option Nat) : Runs Try.prog 17 [gA 2 HE cap] [gB HE] (Det (.sl 1 1 0 2 none) [gB HE, iB true [0, 1]]) := by
  have := comp_ok 2 HE cap (by decide)
  have e : cpA 2 HE = [0, 1] := by
    unfold cpA
    rw [if_pos ckHE]
    show cpF 2 HE = _
    rw [← rcF_eq edHE (by decide)]
    show [lwS (dsF 2 HE 0) 2 2, lwS (dsF 2 HE 1) 2 2] = _
    rw [dsH0, dsH1]
    decide +kernel
  rwa [e] at this
theorem diameter_g (cap : Option Nat) : Runs Try.prog 21 [gA 4 GE cap] [gB GE] (Det (.val (.int .i64 3)) [gB GE]) := by
  have := diam_ok 4 GE cap (by decide)
  have e : dmA 4 GE = 3 := by
    unfold dmA
    rw [if_pos ckGE]
    show mxF (mxF (mxF (mxF 0 (dsF 4 GE 0)) (dsF 4 GE 1)) (dsF 4 GE 2)) (dsF 4 GE 3) = 3
    rw [dsG0, dsG1, dsG2, dsG3]
    decide +kernel
  rwa [e] at this
set_option maxHeartbeats 1000000 in
theorem awake_ok : Runs Try.prog 11 [] [] (Det (.sb true) []) := by
  have hp : peerF 4 GE 2 2 = (3, 1, true) := by decide +kernel
  have p1 := peer_ok 4 GE (some 3) (by decide) 2 2
  rw [hp] at p1
  have q1 := eqs_ok [2, 3, 1, 0] none (some 4) (by decide)
  have q2 := eqs_ok [3, 2, 0, 1] none (some 4) (by decide)
  have q3 := eqs_ok [0, -1] none (some 2) (by decide)
  have q4 := eqs_ok [0, 1] none (some 2) (by decide)
  refine Runs.mk tabOK Try.call11 Try.func11 rfl Try.ntmps11 Try.results11 rfl ?_
  (repeat' (first
    | (intro Q h; refine h ?_; clear h Q)
    | refine bcase_t (by first | exact beq_self_eq_true _ | decide) ?_
    | refine bcase_f (by decide) ?_
    | (with_reducible refine bcase_true ?_)
    | (with_reducible refine bcase_false ?_)
    | (refine bcase_mk (fun hb => ?_) (fun hb => ?_) <;> (try simp only [nS, nT, eq_self, reduceCtorEq] at hb))
    | refine nil_mk (fun hz => ?_) ?_
    | refine cp_full (by first | with_reducible rfl | omega | ((try simp only [wS]); omega) | rfl) (by first | with_reducible rfl | omega | ((try simp only [wS]); omega) | rfl) (by first | with_reducible rfl | omega | ((try simp only [wS]); omega) | rfl) ?_
    | refine draw_mk (by decide +kernel) ?_
    | refine seq_go ?_
    | refine And.intro (by first | omega | ((try simp only [wS]); omega) | rfl | decide) ?_
    | ((first | apply call1 (p1) | apply calld1 (p1)); (focus ((iterate 2 (all_goals (repeat' (first | exact sub_dead | (refine ed_sub rfl ?_; (focus ((repeat' (first | exact True.intro | refine And.intro rfl ?_)); done))) | (refine lit_sub rfl ?_; (focus ((repeat' (first | exact True.intro | refine And.intro rfl ?_)); done))) | (refine litf_sub rfl ?_; (focus ((repeat' (first | exact True.intro | refine And.intro rfl ?_)); done))) | exact sub_map rfl | exact map_same rfl | exact map_updc rfl | refine map_updc ?_ | refine map_same ?_ | refine map_mk ?_ ?_ | exact subL_nil | exact trivial | (intro Q h; refine h ?_; clear h Q) | refine And.intro ?_ ?_ | refine subL_cons ?_ ?_ | refine sub_agg ?_ | refine sub_tup ?_ | refine sub_fn ?_ | refine sub_bfn ?_ ?_ | refine var_mk ?_ | refine rd_var ?_ rfl | refine rd_rd ?_ | exact sub_ptr rfl rfl | exact sub_sl rfl rfl rfl | exact sub_refl_val _ _ | exact sub_sb rfl | exact sub_sbl rfl | exact row_same rfl rfl rfl | exact row_ren rfl rfl rfl | exact sub_nil rfl | ((first | refine sub_int ?_ | refine sub_sl rfl rfl ?_ | refine sub_nil ?_ | refine virt_mk ?_ | show (_ : Nat) = _); first | with_reducible rfl | omega | ((try simp only [wS]); omega) | rfl) | apply row_app1 | apply row_app2 | apply row_app1r | refine cells_succ ?_ ?_ | exact cell0 | with_reducible rfl | (refine And.left (b := True) ⟨?_, True.intro⟩; assumption) | refine sub_int ?_ | refine sub_sb ?_ | refine sub_sbl ?_ | refine sub_sl rfl rfl ?_ | (apply row_lit rfl; (focus (refine cells_succ ?_ ?_))) | refine row_same rfl ?_ ?_ | refine row_ren rfl ?_ ?_)))); done)); (try (any_goals (first | (apply nodup_mk; rfl) | (apply nodup_mk2; rfl) | (apply nodup_mk3; rfl)))))
    | ((first | apply call1 (dist_g3 (some 3)) | apply calld1 (dist_g3 (some 3))); (focus ((iterate 2 (all_goals (repeat' (first | exact sub_dead | (refine ed_sub rfl ?_; (focus ((repeat' (first | exact True.intro | refine And.intro rfl ?_)); done))) | (refine lit_sub rfl ?_; (focus ((repeat' (first | exact True.intro | refine And.intro rfl ?_)); done))) | (refine litf_sub rfl ?_; (focus ((repeat' (first | exact True.intro | refine And.intro rfl ?_)); done))) | exact sub_map rfl | exact map_same rfl | exact map_updc rfl | refine map_updc ?_ | refine map_same ?_ | refine map_mk ?_ ?_ | exact subL_nil | exact trivial | (intro Q h; refine h ?_; clear h Q) | refine And.intro ?_ ?_ | refine subL_cons ?_ ?_ | refine sub_agg ?_ | refine sub_tup ?_ | refine sub_fn ?_ | refine sub_bfn ?_ ?_ | refine var_mk ?_ | refine rd_var ?_ rfl | refine rd_rd ?_ | exact sub_ptr rfl rfl | exact sub_sl rfl rfl rfl | exact sub_refl_val _ _ | exact sub_sb rfl | exact sub_sbl rfl | exact row_same rfl rfl rfl | exact row_ren rfl rfl rfl | exact sub_nil rfl | ((first | refine sub_int ?_ | refine sub_sl rfl rfl ?_ | refine sub_nil ?_ | refine virt_mk ?_ | show (_ : Nat) = _); first | with_reducible rfl | omega | ((try simp only [wS]); omega) | rfl) | apply row_app1 | apply row_app2 | apply row_app1r | refine cells_succ ?_ ?_ | exact cell0 | with_reducible rfl | (refine And.left (b := True) ⟨?_, True.intro⟩; assumption) | refine sub_int ?_ | refine sub_sb ?_ | refine sub_sbl ?_ | refine sub_sl rfl rfl ?_ | (apply row_lit rfl; (focus (refine cells_succ ?_ ?_))) | refine row_same rfl ?_ ?_ | refine row_ren rfl ?_ ?_)))); done)); (try (any_goals (first | (apply nodup_mk; rfl) | (apply nodup_mk2; rfl) | (apply nodup_mk3; rfl)))))
    | ((first | apply call2 (q1) | apply calld2 (q1)); (focus ((iterate 2 (all_goals (repeat' (first | exact sub_dead | (refine ed_sub rfl ?_; (focus ((repeat' (first | exact True.intro | refine And.intro rfl ?_)); done))) | (refine lit_sub rfl ?_; (focus ((repeat' (first | exact True.intro | refine And.intro rfl ?_)); done))) | (refine litf_sub rfl ?_; (focus ((repeat' (first | exact True.intro | refine And.intro rfl ?_)); done))) | exact sub_map rfl | exact map_same rfl | exact map_updc rfl | refine map_updc ?_ | refine map_same ?_ | refine map_mk ?_ ?_ | exact subL_nil | exact trivial | (intro Q h; refine h ?_; clear h Q) | refine And.intro ?_ ?_ | refine subL_cons ?_ ?_ | refine sub_agg ?_ | refine sub_tup ?_ | refine sub_fn ?_ | refine sub_bfn ?_ ?_ | refine var_mk ?_ | refine rd_var ?_ rfl | refine rd_rd ?_ | exact sub_ptr rfl rfl | exact sub_sl rfl rfl rfl | exact sub_refl_val _ _ | exact sub_sb rfl | exact sub_sbl rfl | exact row_same rfl rfl rfl | exact row_ren rfl rfl rfl | exact sub_nil rfl | ((first | refine sub_int ?_ | refine sub_sl rfl rfl ?_ | refine sub_nil ?_ | refine virt_mk ?_ | show (_ : Nat) = _); first | with_reducible rfl | omega | ((try simp only [wS]); omega) | rfl) | apply row_app1 | apply row_app2 | apply row_app1r | refine cells_succ ?_ ?_ | exact cell0 | with_reducible rfl | (refine And.left (b := True) ⟨?_, True.intro⟩; assumption) | refine sub_int ?_ | refine sub_sb ?_ | refine sub_sbl ?_ | refine sub_sl rfl rfl ?_ | (apply row_lit rfl; (focus (refine cells_succ ?_ ?_))) | refine row_same rfl ?_ ?_ | refine row_ren rfl ?_ ?_)))); done)); (try (any_goals (first | (apply nodup_mk; rfl) | (apply nodup_mk2; rfl) | (apply nodup_mk3; rfl)))))
    | ((first | apply call1 (path_g (some 3)) | apply calld1 (path_g (some 3))); (focus ((iterate 2 (all_goals (repeat' (first | exact sub_dead | (refine ed_sub rfl ?_; (focus ((repeat' (first | exact True.intro | refine And.intro rfl ?_)); done))) | (refine lit_sub rfl ?_; (focus ((repeat' (first | exact True.intro | refine And.intro rfl ?_)); done))) | (refine litf_sub rfl ?_; (focus ((repeat' (first | exact True.intro | refine And.intro rfl ?_)); done))) | exact sub_map rfl | exact map_same rfl | exact map_updc rfl | refine map_updc ?_ | refine map_same ?_ | refine map_mk ?_ ?_ | exact subL_nil | exact trivial | (intro Q h; refine h ?_; clear h Q) | refine And.intro ?_ ?_ | refine subL_cons ?_ ?_ | refine sub_agg ?_ | refine sub_tup ?_ | refine sub_fn ?_ | refine sub_bfn ?_ ?_ | refine var_mk ?_ | refine rd_var ?_ rfl | refine rd_rd ?_ | exact sub_ptr rfl rfl | exact sub_sl rfl rfl rfl | exact sub_refl_val _ _ | exact sub_sb rfl | exact sub_sbl rfl | exact row_same rfl rfl rfl | exact row_ren rfl rfl rfl | exact sub_nil rfl | ((first | refine sub_int ?_ | refine sub_sl rfl rfl ?_ | refine sub_nil ?_ | refine virt_mk ?_ | show (_ : Nat) = _); first | with_reducible rfl | omega | ((try simp only [wS]); omega) | rfl) | apply row_app1 | apply row_app2 | apply row_app1r | refine cells_succ ?_ ?_ | exact cell0 | with_reducible rfl | (refine And.left (b := True) ⟨?_, True.intro⟩; assumption) | refine sub_int ?_ | refine sub_sb ?_ | refine sub_sbl ?_ | refine sub_sl rfl rfl ?_ | (apply row_lit rfl; (focus (refine cells_succ ?_ ?_))) | refine row_same rfl ?_ ?_ | refine row_ren rfl ?_ ?_)))); done)); (try (any_goals (first | (apply nodup_mk; rfl) | (apply nodup_mk2; rfl) | (apply nodup_mk3; rfl)))))
    | ((first | apply call2 (q2) | apply calld2 (q2)); (focus ((iterate 2 (all_goals (repeat' (first | exact sub_dead | (refine ed_sub rfl ?_; (focus ((repeat' (first | exact True.intro | refine And.intro rfl ?_)); done))) | (refine lit_sub rfl ?_; (focus ((repeat' (first | exact True.intro | refine And.intro rfl ?_)); done))) | (refine litf_sub rfl ?_; (focus ((repeat' (first | exact True.intro | refine And.intro rfl ?_)); done))) | exact sub_map rfl | exact map_same rfl | exact map_updc rfl | refine map_updc ?_ | refine map_same ?_ | refine map_mk ?_ ?_ | exact subL_nil | exact trivial | (intro Q h; refine h ?_; clear h Q) | refine And.intro ?_ ?_ | refine subL_cons ?_ ?_ | refine sub_agg ?_ | refine sub_tup ?_ | refine sub_fn ?_ | refine sub_bfn ?_ ?_ | refine var_mk ?_ | refine rd_var ?_ rfl | refine rd_rd ?_ | exact sub_ptr rfl rfl | exact sub_sl rfl rfl rfl | exact sub_refl_val _ _ | exact sub_sb rfl | exact sub_sbl rfl | exact row_same rfl rfl rfl | exact row_ren rfl rfl rfl | exact sub_nil rfl | ((first | refine sub_int ?_ | refine sub_sl rfl rfl ?_ | refine sub_nil ?_ | refine virt_mk ?_ | show (_ : Nat) = _); first | with_reducible rfl | omega | ((try simp only [wS]); omega) | rfl) | apply row_app1 | apply row_app2 | apply row_app1r | refine cells_succ ?_ ?_ | exact cell0 | with_reducible rfl | (refine And.left (b := True) ⟨?_, True.intro⟩; assumption) | refine sub_int ?_ | refine sub_sb ?_ | refine sub_sbl ?_ | refine sub_sl rfl rfl ?_ | (apply row_lit rfl; (focus (refine cells_succ ?_ ?_))) | refine row_same rfl ?_ ?_ | refine row_ren rfl ?_ ?_)))); done)); (try (any_goals (first | (apply nodup_mk; rfl) | (apply nodup_mk2; rfl) | (apply nodup_mk3; rfl)))))
    | ((first | apply call_detx [none] (dist_h none) | apply calld_detx [none] (dist_h none)); (focus ((iterate 2 (all_goals (repeat' (first | exact sub_dead | (refine ed_sub rfl ?_; (focus ((repeat' (first | exact True.intro | refine And.intro rfl ?_)); done))) | (refine lit_sub rfl ?_; (focus ((repeat' (first | exact True.intro | refine And.intro rfl ?_)); done))) | (refine litf_sub rfl ?_; (focus ((repeat' (first | exact True.intro | refine And.intro rfl ?_)); done))) | exact sub_map rfl | exact map_same rfl | exact map_updc rfl | refine map_updc ?_ | refine map_same ?_ | refine map_mk ?_ ?_ | exact subL_nil | exact trivial | (intro Q h; refine h ?_; clear h Q) | refine And.intro ?_ ?_ | refine subL_cons ?_ ?_ | refine sub_agg ?_ | refine sub_tup ?_ | refine sub_fn ?_ | refine sub_bfn ?_ ?_ | refine var_mk ?_ | refine rd_var ?_ rfl | refine rd_rd ?_ | exact sub_ptr rfl rfl | exact sub_sl rfl rfl rfl | exact sub_refl_val _ _ | exact sub_sb rfl | exact sub_sbl rfl | exact row_same rfl rfl rfl | exact row_ren rfl rfl rfl | exact sub_nil rfl | ((first | refine sub_int ?_ | refine sub_sl rfl rfl ?_ | refine sub_nil ?_ | refine virt_mk ?_ | show (_ : Nat) = _); first | with_reducible rfl | omega | ((try simp only [wS]); omega) | rfl) | apply row_app1 | apply row_app2 | apply row_app1r | refine cells_succ ?_ ?_ | exact cell0 | with_reducible rfl | (refine And.left (b := True) ⟨?_, True.intro⟩; assumption) | refine sub_int ?_ | refine sub_sb ?_ | refine sub_sbl ?_ | refine sub_sl rfl rfl ?_ | (apply row_lit rfl; (focus (refine cells_succ ?_ ?_))) | refine row_same rfl ?_ ?_ | refine row_ren rfl ?_ ?_)))))); (any_goals (first | (apply nodup_mk; rfl) | (apply nodup_mk2; rfl) | (apply nodup_mk3; rfl))))
    | ((first | apply call2 (q3) | apply calld2 (q3)); (focus ((iterate 2 (all_goals (repeat' (first | exact sub_dead | (refine ed_sub rfl ?_; (focus ((repeat' (first | exact True.intro | refine And.intro rfl ?_)); done))) | (refine lit_sub rfl ?_; (focus ((repeat' (first | exact True.intro | refine And.intro rfl ?_)); done))) | (refine litf_sub rfl ?_; (focus ((repeat' (first | exact True.intro | refine And.intro rfl ?_)); done))) | exact sub_map rfl | exact map_same rfl | exact map_updc rfl | refine map_updc ?_ | refine map_same ?_ | refine map_mk ?_ ?_ | exact subL_nil | exact trivial | (intro Q h; refine h ?_; clear h Q) | refine And.intro ?_ ?_ | refine subL_cons ?_ ?_ | refine sub_agg ?_ | refine sub_tup ?_ | refine sub_fn ?_ | refine sub_bfn ?_ ?_ | refine var_mk ?_ | refine rd_var ?_ rfl | refine rd_rd ?_ | exact sub_ptr rfl rfl | exact sub_sl rfl rfl rfl | exact sub_refl_val _ _ | exact sub_sb rfl | exact sub_sbl rfl | exact row_same rfl rfl rfl | exact row_ren rfl rfl rfl | exact sub_nil rfl | ((first | refine sub_int ?_ | refine sub_sl rfl rfl ?_ | refine sub_nil ?_ | refine virt_mk ?_ | show (_ : Nat) = _); first | with_reducible rfl | omega | ((try simp only [wS]); omega) | rfl) | apply row_app1 | apply row_app2 | apply row_app1r | refine cells_succ ?_ ?_ | exact cell0 | with_reducible rfl | (refine And.left (b := True) ⟨?_, True.intro⟩; assumption) | refine sub_int ?_ | refine sub_sb ?_ | refine sub_sbl ?_ | refine sub_sl rfl rfl ?_ | (apply row_lit rfl; (focus (refine cells_succ ?_ ?_))) | refine row_same rfl ?_ ?_ | refine row_ren rfl ?_ ?_)))); done)); (try (any_goals (first | (apply nodup_mk; rfl) | (apply nodup_mk2; rfl) | (apply nodup_mk3; rfl)))))
    | ((first | apply call_detx [none] (comp_h none) | apply calld_detx [none] (comp_h none)); (focus ((iterate 2 (all_goals (repeat' (first | exact sub_dead | (refine ed_sub rfl ?_; (focus ((repeat' (first | exact True.intro | refine And.intro rfl ?_)); done))) | (refine lit_sub rfl ?_; (focus ((repeat' (first | exact True.intro | refine And.intro rfl ?_)); done))) | (refine litf_sub rfl ?_; (focus ((repeat' (first | exact True.intro | refine And.intro rfl ?_)); done))) | exact sub_map rfl | exact map_same rfl | exact map_updc rfl | refine map_updc ?_ | refine map_same ?_ | refine map_mk ?_ ?_ | exact subL_nil | exact trivial | (intro Q h; refine h ?_; clear h Q) | refine And.intro ?_ ?_ | refine subL_cons ?_ ?_ | refine sub_agg ?_ | refine sub_tup ?_ | refine sub_fn ?_ | refine sub_bfn ?_ ?_ | refine var_mk ?_ | refine rd_var ?_ rfl | refine rd_rd ?_ | exact sub_ptr rfl rfl | exact sub_sl rfl rfl rfl | exact sub_refl_val _ _ | exact sub_sb rfl | exact sub_sbl rfl | exact row_same rfl rfl rfl | exact row_ren rfl rfl rfl | exact sub_nil rfl | ((first | refine sub_int ?_ | refine sub_sl rfl rfl ?_ | refine sub_nil ?_ | refine virt_mk ?_ | show (_ : Nat) = _); first | with_reducible rfl | omega | ((try simp only [wS]); omega) | rfl) | apply row_app1 | apply row_app2 | apply row_app1r | refine cells_succ ?_ ?_ | exact cell0 | with_reducible rfl | (refine And.left (b := True) ⟨?_, True.intro⟩; assumption) | refine sub_int ?_ | refine sub_sb ?_ | refine sub_sbl ?_ | refine sub_sl rfl rfl ?_ | (apply row_lit rfl; (focus (refine cells_succ ?_ ?_))) | refine row_same rfl ?_ ?_ | refine row_ren rfl ?_ ?_)))))); (any_goals (first | (apply nodup_mk; rfl) | (apply nodup_mk2; rfl) | (apply nodup_mk3; rfl))))
    | ((first | apply call2 (q4) | apply calld2 (q4)); (focus ((iterate 2 (all_goals (repeat' (first | exact sub_dead | (refine ed_sub rfl ?_; (focus ((repeat' (first | exact True.intro | refine And.intro rfl ?_)); done))) | (refine lit_sub rfl ?_; (focus ((repeat' (first | exact True.intro | refine And.intro rfl ?_)); done))) | (refine litf_sub rfl ?_; (focus ((repeat' (first | exact True.intro | refine And.intro rfl ?_)); done))) | exact sub_map rfl | exact map_same rfl | exact map_updc rfl | refine map_updc ?_ | refine map_same ?_ | refine map_mk ?_ ?_ | exact subL_nil | exact trivial | (intro Q h; refine h ?_; clear h Q) | refine And.intro ?_ ?_ | refine subL_cons ?_ ?_ | refine sub_agg ?_ | refine sub_tup ?_ | refine sub_fn ?_ | refine sub_bfn ?_ ?_ | refine var_mk ?_ | refine rd_var ?_ rfl | refine rd_rd ?_ | exact sub_ptr rfl rfl | exact sub_sl rfl rfl rfl | exact sub_refl_val _ _ | exact sub_sb rfl | exact sub_sbl rfl | exact row_same rfl rfl rfl | exact row_ren rfl rfl rfl | exact sub_nil rfl | ((first | refine sub_int ?_ | refine sub_sl rfl rfl ?_ | refine sub_nil ?_ | refine virt_mk ?_ | show (_ : Nat) = _); first | with_reducible rfl | omega | ((try simp only [wS]); omega) | rfl) | apply row_app1 | apply row_app2 | apply row_app1r | refine cells_succ ?_ ?_ | exact cell0 | with_reducible rfl | (refine And.left (b := True) ⟨?_, True.intro⟩; assumption) | refine sub_int ?_ | refine sub_sb ?_ | refine sub_sbl ?_ | refine sub_sl rfl rfl ?_ | (apply row_lit rfl; (focus (refine cells_succ ?_ ?_))) | refine row_same rfl ?_ ?_ | refine row_ren rfl ?_ ?_)))); done)); (try (any_goals (first | (apply nodup_mk; rfl) | (apply nodup_mk2; rfl) | (apply nodup_mk3; rfl)))))
    | ((first | apply call1 (diameter_g (some 3)) | apply calld1 (diameter_g (some 3))); (focus ((iterate 2 (all_goals (repeat' (first | exact sub_dead | (refine ed_sub rfl ?_; (focus ((repeat' (first | exact True.intro | refine And.intro rfl ?_)); done))) | (refine lit_sub rfl ?_; (focus ((repeat' (first | exact True.intro | refine And.intro rfl ?_)); done))) | (refine litf_sub rfl ?_; (focus ((repeat' (first | exact True.intro | refine And.intro rfl ?_)); done))) | exact sub_map rfl | exact map_same rfl | exact map_updc rfl | refine map_updc ?_ | refine map_same ?_ | refine map_mk ?_ ?_ | exact subL_nil | exact trivial | (intro Q h; refine h ?_; clear h Q) | refine And.intro ?_ ?_ | refine subL_cons ?_ ?_ | refine sub_agg ?_ | refine sub_tup ?_ | refine sub_fn ?_ | refine sub_bfn ?_ ?_ | refine var_mk ?_ | refine rd_var ?_ rfl | refine rd_rd ?_ | exact sub_ptr rfl rfl | exact sub_sl rfl rfl rfl | exact sub_refl_val _ _ | exact sub_sb rfl | exact sub_sbl rfl | exact row_same rfl rfl rfl | exact row_ren rfl rfl rfl | exact sub_nil rfl | ((first | refine sub_int ?_ | refine sub_sl rfl rfl ?_ | refine sub_nil ?_ | refine virt_mk ?_ | show (_ : Nat) = _); first | with_reducible rfl | omega | ((try simp only [wS]); omega) | rfl) | apply row_app1 | apply row_app2 | apply row_app1r | refine cells_succ ?_ ?_ | exact cell0 | with_reducible rfl | (refine And.left (b := True) ⟨?_, True.intro⟩; assumption) | refine sub_int ?_ | refine sub_sb ?_ | refine sub_sbl ?_ | refine sub_sl rfl rfl ?_ | (apply row_lit rfl; (focus (refine cells_succ ?_ ?_))) | refine row_same rfl ?_ ?_ | refine row_ren rfl ?_ ?_)))); done)); (try (any_goals (first | (apply nodup_mk; rfl) | (apply nodup_mk2; rfl) | (apply nodup_mk3; rfl)))))
    | (apply ret_mk []; (focus (iterate 2 (all_goals (repeat' (first | exact sub_dead | (refine ed_sub rfl ?_; (focus ((repeat' (first | exact True.intro | refine And.intro rfl ?_)); done))) | (refine lit_sub rfl ?_; (focus ((repeat' (first | exact True.intro | refine And.intro rfl ?_)); done))) | (refine litf_sub rfl ?_; (focus ((repeat' (first | exact True.intro | refine And.intro rfl ?_)); done))) | exact sub_map rfl | exact map_same rfl | exact map_updc rfl | refine map_updc ?_ | refine map_same ?_ | refine map_mk ?_ ?_ | exact subL_nil | exact trivial | (intro Q h; refine h ?_; clear h Q) | refine And.intro ?_ ?_ | refine subL_cons ?_ ?_ | refine sub_agg ?_ | refine sub_tup ?_ | refine sub_fn ?_ | refine sub_bfn ?_ ?_ | refine var_mk ?_ | refine rd_var ?_ rfl | refine rd_rd ?_ | exact sub_ptr rfl rfl | exact sub_sl rfl rfl rfl | exact sub_refl_val _ _ | exact sub_sb rfl | exact sub_sbl rfl | exact row_same rfl rfl rfl | exact row_ren rfl rfl rfl | exact sub_nil rfl | ((first | refine sub_int ?_ | refine sub_sl rfl rfl ?_ | refine sub_nil ?_ | refine virt_mk ?_ | show (_ : Nat) = _); first | with_reducible rfl | omega | ((try simp only [wS]); omega) | rfl) | apply row_app1 | apply row_app2 | apply row_app1r | refine cells_succ ?_ ?_ | exact cell0 | with_reducible rfl | (refine And.left (b := True) ⟨?_, True.intro⟩; assumption) | refine sub_int ?_ | refine sub_sb ?_ | refine sub_sbl ?_ | refine sub_sl rfl rfl ?_ | (apply row_lit rfl; (focus (refine cells_succ ?_ ?_))) | refine row_same rfl ?_ ?_ | refine row_ren rfl ?_ ?_))))); (any_goals (apply okIx_mk; rfl)))
    | omega))
end Go.Vx.L18

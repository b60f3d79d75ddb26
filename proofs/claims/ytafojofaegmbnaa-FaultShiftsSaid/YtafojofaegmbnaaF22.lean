/- Lemmas of a small executor for the model, and contracts of functions, used for the law that this claim proves. No condition. -/
import Derived.Test.YtafojofaegmbnaaF21
set_option linter.unusedSimpArgs false
set_option linter.unusedVariables false
set_option maxRecDepth 100000
namespace Go.Vx.L55
open Go Go.Proofs
/-- A timestamp's instant is the instant, near the pivot. -/
theorem round_trip (t p : Int) (h1 : -8000000000000000000 ≤ t) (h2 : t ≤ 8000000000000000000) (h3 : -8000000000000000000 ≤ p) (h4 : p ≤ 8000000000000000000) (h5 : -2251799813685248 ≤ t - p) (h6 : t - p ≤ 2251799813685248) : tF (ofF t) p = (t, 0) := by
  have ft := frac_bd t
  have fp := frac_bd p
  have et : ofF t = t / 1000000000 % 4294967296 * 4294967296 + fracF (t % 1000000000) := rfl
  have ep : ofF p = p / 1000000000 % 4294967296 * 4294967296 + fracF (p % 1000000000) := rfl
  have ed : dF (ofF t) p = (t / 1000000000 - p / 1000000000) * 4294967296 + (fracF (t % 1000000000) - fracF (p % 1000000000)) := by
    unfold dF
    rw [cw, uw, et, ep]
    generalize fracF (t % 1000000000) = a at *
    generalize fracF (p % 1000000000) = b at *
    omega
  have el : lowF (ofF t) p % 4294967296 = fracF (t % 1000000000) ∧ hiF (ofF t) p = t / 1000000000 := by
    unfold hiF lowF
    rw [ed]
    generalize fracF (t % 1000000000) = a at *
    generalize fracF (p % 1000000000) = b at *
    omega
  have ec : (fracF (t % 1000000000) * 1000000000 + 4294967295) / 4294967296 = t % 1000000000 := by
    unfold fracF
    omega
  have ev : tvF (ofF t) p = t := by
    unfold tvF
    rw [el.1, el.2, ec]
    omega
  unfold tF
  rw [if_neg (by omega), ev, if_pos ⟨h1, h2⟩]
abbrev lS (v : Int) : List Ft := [⟨3, 0, 1125899906842624, 2, v⟩]
abbrev pS (a b : Int) : Nt := ⟨0, 0, 0, 0, 0, 0, 0, 0, 0, 0, 7, a, b⟩
theorem sv_of {v a b : Int} {x : Fg} (h : shF x.lo x.hi v = ((a, b), 0)) : sv v x = x.iv' a b := by
  unfold sv; rw [h]; exact if_pos rfl
theorem apS (v A R X LO HI : Int) (hv : V64 v) (hA : U32 A) (hR : 3900000000000000000 ≤ R ∧ R ≤ 3900000004294967295) (hX : 3900000000000000000 ≤ X ∧ X ≤ 3900000004294967295) (hL : -2147483648 ≤ LO ∧ LO ≤ HI ∧ HI ≤ 4294967295) :
    apF (lS v) 3 A (honest (pS (ofF R) (ofF X)) LO HI) = ⟨false, pS (ofF (R + v)) (ofF (X + v)), LO + v, HI + v, 0⟩ := by
  have ep : pvF A = 3900000000000000000 + A := by simp only [pvF, cw]; omega
  have c1 : ck1 ⟨3, 0, 1125899906842624, 2, v⟩ = 0 := by
    have e : rg 2 = (-1125899906842624, 1125899906842624) := by decide +kernel
    unfold ck1
    rw [if_neg (by simp only; omega), if_neg (by simp only; omega), if_neg (by simp only; omega), if_neg (by simp only [e]; omega)]
  have h0 : ckC (lS v) = 0 := by
    unfold ckC lS
    rw [if_neg (by simp)]
    simp only [ckL, c1, if_true]
  have ha : acL (lS v) 3 A = [0] := by
    unfold acL
    rw [if_pos h0]
    have hh : hit ⟨3, 0, 1125899906842624, 2, v⟩ 3 A := ⟨rfl, hA.1, by simp only; omega⟩
    show (if hit ⟨3, 0, 1125899906842624, 2, v⟩ 3 A then ([] : List Int) ++ [((0 : Nat) : Int)] else []) = [0]
    rw [if_pos hh]; rfl
  have s1 : sh (ofF R) v A = ofF (R + v) := by
    unfold sh
    rw [ep, round_trip R _ (by omega) (by omega) (by omega) (by omega) (by omega) (by omega)]
    exact if_pos rfl
  have s2 : sh (ofF X) v A = ofF (X + v) := by
    unfold sh
    rw [ep, round_trip X _ (by omega) (by omega) (by omega) (by omega) (by omega) (by omega)]
    exact if_pos rfl
  have s3 : shF LO HI v = ((LO + v, HI + v), 0) := by
    unfold shF cdF
    have g1 : ivck LO HI = 0 := by unfold ivck; rw [if_neg (by omega)]
    have g2 : ivck (LO + v) (HI + v) = 0 := by unfold ivck; rw [if_neg (by omega)]
    rw [if_neg (by omega), if_pos g2]
  unfold apF
  rw [ha]
  show fgF ⟨3, 0, 1125899906842624, 2, v⟩ A (honest (pS (ofF R) (ofF X)) LO HI) = _
  show sv v (((honest (pS (ofF R) (ofF X)) LO HI).rec' (sh (ofF R) v A)).xmt' (sh (ofF X) v A)) = _
  rw [s1, s2]
  rw [sv_of (a := LO + v) (b := HI + v) s3]
  rfl
theorem wfB {k : IntKind} {n : Int} {a b : Int} (h : (Lit.int k n).wf = true) (ha : k.min = a) (hb : k.max = b) : a ≤ n ∧ n ≤ b := by
  simp only [Lit.wf, ha, hb, Bool.and_eq_true, decide_eq_true_eq] at h
  exact h
set_option maxHeartbeats 4000000 in
theorem faultShifts (at' rc xm value lo width : Int) (w0 : (Lit.int .u32 at').wf = true) (w1 : (Lit.int .u32 rc).wf = true) (w2 : (Lit.int .u32 xm).wf = true) (w3 : (Lit.int .i64 value).wf = true) (w4 : (Lit.int .i32 lo).wf = true) (w5 : (Lit.int .u16 width).wf = true) :
    Runs Try.prog 7 [.val (.int .u32 at'), .val (.int .u32 rc), .val (.int .u32 xm), .val (.int .i64 value), .val (.int .i32 lo), .val (.int .u16 width)] [] (Det (.sb true) []) := by
  have b0 := wfB w0 (show _ = 0 from by decide) (show _ = 4294967295 from by decide)
  have b1 := wfB w1 (show _ = 0 from by decide) (show _ = 4294967295 from by decide)
  have b2 := wfB w2 (show _ = 0 from by decide) (show _ = 4294967295 from by decide)
  have b4 := wfB w4 (show _ = -2147483648 from by decide) (show _ = 2147483647 from by decide)
  have b5 := wfB w5 (show _ = 0 from by decide) (show _ = 65535 from by decide)
  have hv : V64 (value.tmod 1125899906842625) := by
    have g1 := Int.tmod_lt_of_pos value (show (0 : Int) < 1125899906842625 by decide)
    have g2 := Int.lt_tmod_of_pos value (show (0 : Int) < 1125899906842625 by decide)
    simp only [V64]; omega
  have eA : IntKind.i64.wrap at' = at' := cwrap (by omega) (by omega)
  have eR : IntKind.i64.wrap (3900000000000000000 + IntKind.i64.wrap rc) = 3900000000000000000 + rc := by simp only [cw]; omega
  have eX : IntKind.i64.wrap (3900000000000000000 + IntKind.i64.wrap xm) = 3900000000000000000 + xm := by simp only [cw]; omega
  have eL : IntKind.i64.wrap lo = lo := cwrap (by omega) (by omega)
  have eH : IntKind.i64.wrap (IntKind.i64.wrap lo + IntKind.i64.wrap width) = lo + width := by simp only [cw]; omega
  have o1 := ofs_ok (IntKind.i64.wrap (3900000000000000000 + IntKind.i64.wrap rc)) (by simp only [R64]; omega)
  have o2 := ofs_ok (IntKind.i64.wrap (3900000000000000000 + IntKind.i64.wrap xm)) (by simp only [R64]; omega)
  have aw := awake_ok
  obtain ⟨v, ev⟩ : ∃ v, value.tmod 1125899906842625 = v := ⟨_, rfl⟩
  rw [ev] at hv
  have hap := apS v (IntKind.i64.wrap at') (IntKind.i64.wrap (3900000000000000000 + IntKind.i64.wrap rc)) (IntKind.i64.wrap (3900000000000000000 + IntKind.i64.wrap xm)) (IntKind.i64.wrap lo) (IntKind.i64.wrap (IntKind.i64.wrap lo + IntKind.i64.wrap width)) hv (by simp only [U32]; omega) (by omega) (by omega) (by omega)
  have a := apply_ok (lS v) (some 1) (by show (1 : Nat) ≤ maxLen; decide) 3 (IntKind.i64.wrap at') (pS (ofF (IntKind.i64.wrap (3900000000000000000 + IntKind.i64.wrap rc))) (ofF (IntKind.i64.wrap (3900000000000000000 + IntKind.i64.wrap xm)))) (IntKind.i64.wrap lo) (IntKind.i64.wrap (IntKind.i64.wrap lo + IntKind.i64.wrap width)) (by simp only [R64]; omega)
  rw [hap] at a
  have ep : pvF (IntKind.i64.wrap at') = 3900000000000000000 + at' := by simp only [pvF, cw]; omega
  have t1 := time_ok (ofF (IntKind.i64.wrap (3900000000000000000 + IntKind.i64.wrap rc) + v)) (pvF (IntKind.i64.wrap at')) (pv_R _)
  have t2 := time_ok (ofF (IntKind.i64.wrap (3900000000000000000 + IntKind.i64.wrap xm) + v)) (pvF (IntKind.i64.wrap at')) (pv_R _)
  rw [round_trip _ (pvF (IntKind.i64.wrap at')) (by omega) (by omega) (by omega) (by omega) (by omega) (by omega)] at t1 t2
  have r2 : tF (ofF (IntKind.i64.wrap (3900000000000000000 + IntKind.i64.wrap xm) + v)) (pvF (IntKind.i64.wrap at')) = (IntKind.i64.wrap (3900000000000000000 + IntKind.i64.wrap xm) + v, 0) := round_trip _ _ (by omega) (by omega) (by omega) (by omega) (by omega) (by omega)
  try rw [r2] at t2
  have f1 : IntKind.i64.wrap (IntKind.i64.wrap (3900000000000000000 + IntKind.i64.wrap rc) + v) = IntKind.i64.wrap (3900000000000000000 + IntKind.i64.wrap rc) + v := cwrap (by omega) (by omega)
  have f2 : IntKind.i64.wrap (IntKind.i64.wrap (3900000000000000000 + IntKind.i64.wrap xm) + v) = IntKind.i64.wrap (3900000000000000000 + IntKind.i64.wrap xm) + v := cwrap (by omega) (by omega)
  have f3 : IntKind.i64.wrap (IntKind.i64.wrap lo + v) = IntKind.i64.wrap lo + v := cwrap (by omega) (by omega)
  have f4 : IntKind.i64.wrap (IntKind.i64.wrap (IntKind.i64.wrap lo + IntKind.i64.wrap width) + v) = IntKind.i64.wrap (IntKind.i64.wrap lo + IntKind.i64.wrap width) + v := cwrap (by omega) (by omega)
  clear eA eR eX eL eH hap ep r2
  subst ev
  refine Runs.mk tabOK Try.call7 Try.func7 rfl Try.ntmps7 Try.results7 rfl ?_
  (repeat' (first
    | (intro Q h; refine h ?_; clear h Q)
    | refine bcase_t (by first | exact beq_self_eq_true _ | decide) ?_
    | refine bcase_f (by decide) ?_
    | (with_reducible refine bcase_true ?_)
    | (with_reducible refine bcase_false ?_)
    | (refine bcase_mk (fun hb => ?_) (fun hb => ?_) <;> (try simp only [decide_eq_true_eq, decide_eq_false_iff_not, beq_iff_eq, beq_eq_false_iff_ne, bne_iff_ne, bne_eq_false_iff_eq, Bool.not_eq_true', Bool.not_eq_false', Bool.and_eq_true, Bool.or_eq_true, ne_eq, Int.not_lt, Int.not_le, eq_self, not_true_eq_false, not_false_eq_true, reduceCtorEq, Bool.and_true, Bool.true_and, beq_self_eq_true, bne_self_eq_false, Bool.false_eq_true, Bool.and_false, Bool.not_true, Bool.not_false] at hb))
    | refine nil_mk (fun hz => ?_) ?_
    | refine cp_full (by first | with_reducible rfl | omega | ((try simp only [IntKind.wrap_i64, List.length_append, List.length_cons, List.length_nil, List.length_take, List.length_map, Int.toNat_natCast]); omega) | rfl) (by first | with_reducible rfl | omega | ((try simp only [IntKind.wrap_i64, List.length_append, List.length_cons, List.length_nil, List.length_take, List.length_map, Int.toNat_natCast]); omega) | rfl) (by first | with_reducible rfl | omega | ((try simp only [IntKind.wrap_i64, List.length_append, List.length_cons, List.length_nil, List.length_take, List.length_map, Int.toNat_natCast]); omega) | rfl) ?_
    | refine draw_mk (by decide +kernel) ?_
    | refine seq_go ?_
    | refine And.intro (by first | omega | ((try simp only [IntKind.wrap_i64, List.length_append, List.length_cons, List.length_nil, List.length_take, List.length_map, Int.toNat_natCast]); omega) | rfl | decide) ?_
    | ((first | apply call0 (o1) | apply calld0 (o1)); (focus ((iterate 2 (all_goals (repeat' (first | exact sub_dead | (refine litF_sub rfl ?_; (focus ((repeat' (first | exact True.intro | refine And.intro ?_ ?_ | rfl)); done))) | exact sub_map rfl | exact map_same rfl | exact map_updc rfl | refine map_updc ?_ | refine map_same ?_ | refine map_mk ?_ ?_ | exact subL_nil | exact trivial | (intro Q h; refine h ?_; clear h Q) | refine And.intro ?_ ?_ | refine subL_cons ?_ ?_ | refine sub_agg ?_ | refine sub_tup ?_ | refine sub_fn ?_ | refine sub_bfn ?_ ?_ | refine var_mk ?_ | refine rd_var ?_ rfl | refine rd_rd ?_ | exact sub_ptr rfl rfl | exact sub_sl rfl rfl rfl | exact sub_refl_val _ _ | (refine sub_int ?_; first | with_reducible rfl | omega | ((try simp only [IntKind.wrap_i64, List.length_append, List.length_cons, List.length_nil, List.length_take, List.length_map, Int.toNat_natCast]); omega) | rfl) | exact sub_sb rfl | exact sub_sbl rfl | exact row_same rfl rfl rfl | exact row_ren rfl rfl rfl | (refine sub_sl rfl rfl ?_; first | with_reducible rfl | omega | ((try simp only [IntKind.wrap_i64, List.length_append, List.length_cons, List.length_nil, List.length_take, List.length_map, Int.toNat_natCast]); omega) | rfl) | exact sub_nil rfl | (refine sub_nil ?_; first | with_reducible rfl | omega | ((try simp only [IntKind.wrap_i64, List.length_append, List.length_cons, List.length_nil, List.length_take, List.length_map, Int.toNat_natCast]); omega) | rfl) | (refine virt_mk ?_; first | with_reducible rfl | omega | ((try simp only [IntKind.wrap_i64, List.length_append, List.length_cons, List.length_nil, List.length_take, List.length_map, Int.toNat_natCast]); omega) | rfl) | apply row_app1 | apply row_app2 | apply row_app1r | refine cells_succ ?_ ?_ | exact cell0 | with_reducible rfl | (refine And.left (b := True) ⟨?_, True.intro⟩; assumption) | (show (_ : Nat) = _; first | with_reducible rfl | omega | ((try simp only [IntKind.wrap_i64, List.length_append, List.length_cons, List.length_nil, List.length_take, List.length_map, Int.toNat_natCast]); omega) | rfl) | refine sub_int ?_ | refine sub_sb ?_ | refine sub_sbl ?_ | refine sub_sl rfl rfl ?_ | (apply row_lit rfl; (focus (refine cells_succ ?_ ?_))) | refine row_same rfl ?_ ?_ | refine row_ren rfl ?_ ?_)))); done)))
    | ((first | apply call0 (o2) | apply calld0 (o2)); (focus ((iterate 2 (all_goals (repeat' (first | exact sub_dead | (refine litF_sub rfl ?_; (focus ((repeat' (first | exact True.intro | refine And.intro ?_ ?_ | rfl)); done))) | exact sub_map rfl | exact map_same rfl | exact map_updc rfl | refine map_updc ?_ | refine map_same ?_ | refine map_mk ?_ ?_ | exact subL_nil | exact trivial | (intro Q h; refine h ?_; clear h Q) | refine And.intro ?_ ?_ | refine subL_cons ?_ ?_ | refine sub_agg ?_ | refine sub_tup ?_ | refine sub_fn ?_ | refine sub_bfn ?_ ?_ | refine var_mk ?_ | refine rd_var ?_ rfl | refine rd_rd ?_ | exact sub_ptr rfl rfl | exact sub_sl rfl rfl rfl | exact sub_refl_val _ _ | (refine sub_int ?_; first | with_reducible rfl | omega | ((try simp only [IntKind.wrap_i64, List.length_append, List.length_cons, List.length_nil, List.length_take, List.length_map, Int.toNat_natCast]); omega) | rfl) | exact sub_sb rfl | exact sub_sbl rfl | exact row_same rfl rfl rfl | exact row_ren rfl rfl rfl | (refine sub_sl rfl rfl ?_; first | with_reducible rfl | omega | ((try simp only [IntKind.wrap_i64, List.length_append, List.length_cons, List.length_nil, List.length_take, List.length_map, Int.toNat_natCast]); omega) | rfl) | exact sub_nil rfl | (refine sub_nil ?_; first | with_reducible rfl | omega | ((try simp only [IntKind.wrap_i64, List.length_append, List.length_cons, List.length_nil, List.length_take, List.length_map, Int.toNat_natCast]); omega) | rfl) | (refine virt_mk ?_; first | with_reducible rfl | omega | ((try simp only [IntKind.wrap_i64, List.length_append, List.length_cons, List.length_nil, List.length_take, List.length_map, Int.toNat_natCast]); omega) | rfl) | apply row_app1 | apply row_app2 | apply row_app1r | refine cells_succ ?_ ?_ | exact cell0 | with_reducible rfl | (refine And.left (b := True) ⟨?_, True.intro⟩; assumption) | (show (_ : Nat) = _; first | with_reducible rfl | omega | ((try simp only [IntKind.wrap_i64, List.length_append, List.length_cons, List.length_nil, List.length_take, List.length_map, Int.toNat_natCast]); omega) | rfl) | refine sub_int ?_ | refine sub_sb ?_ | refine sub_sbl ?_ | refine sub_sl rfl rfl ?_ | (apply row_lit rfl; (focus (refine cells_succ ?_ ?_))) | refine row_same rfl ?_ ?_ | refine row_ren rfl ?_ ?_)))); done)))
    | ((first | apply call1 (a) | apply calld1 (a)); (focus ((iterate 2 (all_goals (repeat' (first | exact sub_dead | (refine litF_sub rfl ?_; (focus ((repeat' (first | exact True.intro | refine And.intro ?_ ?_ | rfl)); done))) | exact sub_map rfl | exact map_same rfl | exact map_updc rfl | refine map_updc ?_ | refine map_same ?_ | refine map_mk ?_ ?_ | exact subL_nil | exact trivial | (intro Q h; refine h ?_; clear h Q) | refine And.intro ?_ ?_ | refine subL_cons ?_ ?_ | refine sub_agg ?_ | refine sub_tup ?_ | refine sub_fn ?_ | refine sub_bfn ?_ ?_ | refine var_mk ?_ | refine rd_var ?_ rfl | refine rd_rd ?_ | exact sub_ptr rfl rfl | exact sub_sl rfl rfl rfl | exact sub_refl_val _ _ | (refine sub_int ?_; first | with_reducible rfl | omega | ((try simp only [IntKind.wrap_i64, List.length_append, List.length_cons, List.length_nil, List.length_take, List.length_map, Int.toNat_natCast]); omega) | rfl) | exact sub_sb rfl | exact sub_sbl rfl | exact row_same rfl rfl rfl | exact row_ren rfl rfl rfl | (refine sub_sl rfl rfl ?_; first | with_reducible rfl | omega | ((try simp only [IntKind.wrap_i64, List.length_append, List.length_cons, List.length_nil, List.length_take, List.length_map, Int.toNat_natCast]); omega) | rfl) | exact sub_nil rfl | (refine sub_nil ?_; first | with_reducible rfl | omega | ((try simp only [IntKind.wrap_i64, List.length_append, List.length_cons, List.length_nil, List.length_take, List.length_map, Int.toNat_natCast]); omega) | rfl) | (refine virt_mk ?_; first | with_reducible rfl | omega | ((try simp only [IntKind.wrap_i64, List.length_append, List.length_cons, List.length_nil, List.length_take, List.length_map, Int.toNat_natCast]); omega) | rfl) | apply row_app1 | apply row_app2 | apply row_app1r | refine cells_succ ?_ ?_ | exact cell0 | with_reducible rfl | (refine And.left (b := True) ⟨?_, True.intro⟩; assumption) | (show (_ : Nat) = _; first | with_reducible rfl | omega | ((try simp only [IntKind.wrap_i64, List.length_append, List.length_cons, List.length_nil, List.length_take, List.length_map, Int.toNat_natCast]); omega) | rfl) | refine sub_int ?_ | refine sub_sb ?_ | refine sub_sbl ?_ | refine sub_sl rfl rfl ?_ | (apply row_lit rfl; (focus (refine cells_succ ?_ ?_))) | refine row_same rfl ?_ ?_ | refine row_ren rfl ?_ ?_)))); done)))
    | ((first | apply call0 (t1) | apply calld0 (t1)); (focus ((iterate 2 (all_goals (repeat' (first | exact sub_dead | (refine litF_sub rfl ?_; (focus ((repeat' (first | exact True.intro | refine And.intro ?_ ?_ | rfl)); done))) | exact sub_map rfl | exact map_same rfl | exact map_updc rfl | refine map_updc ?_ | refine map_same ?_ | refine map_mk ?_ ?_ | exact subL_nil | exact trivial | (intro Q h; refine h ?_; clear h Q) | refine And.intro ?_ ?_ | refine subL_cons ?_ ?_ | refine sub_agg ?_ | refine sub_tup ?_ | refine sub_fn ?_ | refine sub_bfn ?_ ?_ | refine var_mk ?_ | refine rd_var ?_ rfl | refine rd_rd ?_ | exact sub_ptr rfl rfl | exact sub_sl rfl rfl rfl | exact sub_refl_val _ _ | (refine sub_int ?_; first | with_reducible rfl | omega | ((try simp only [IntKind.wrap_i64, List.length_append, List.length_cons, List.length_nil, List.length_take, List.length_map, Int.toNat_natCast]); omega) | rfl) | exact sub_sb rfl | exact sub_sbl rfl | exact row_same rfl rfl rfl | exact row_ren rfl rfl rfl | (refine sub_sl rfl rfl ?_; first | with_reducible rfl | omega | ((try simp only [IntKind.wrap_i64, List.length_append, List.length_cons, List.length_nil, List.length_take, List.length_map, Int.toNat_natCast]); omega) | rfl) | exact sub_nil rfl | (refine sub_nil ?_; first | with_reducible rfl | omega | ((try simp only [IntKind.wrap_i64, List.length_append, List.length_cons, List.length_nil, List.length_take, List.length_map, Int.toNat_natCast]); omega) | rfl) | (refine virt_mk ?_; first | with_reducible rfl | omega | ((try simp only [IntKind.wrap_i64, List.length_append, List.length_cons, List.length_nil, List.length_take, List.length_map, Int.toNat_natCast]); omega) | rfl) | apply row_app1 | apply row_app2 | apply row_app1r | refine cells_succ ?_ ?_ | exact cell0 | with_reducible rfl | (refine And.left (b := True) ⟨?_, True.intro⟩; assumption) | (show (_ : Nat) = _; first | with_reducible rfl | omega | ((try simp only [IntKind.wrap_i64, List.length_append, List.length_cons, List.length_nil, List.length_take, List.length_map, Int.toNat_natCast]); omega) | rfl) | refine sub_int ?_ | refine sub_sb ?_ | refine sub_sbl ?_ | refine sub_sl rfl rfl ?_ | (apply row_lit rfl; (focus (refine cells_succ ?_ ?_))) | refine row_same rfl ?_ ?_ | refine row_ren rfl ?_ ?_)))); done)))
    | ((first | apply call0 (t2) | apply calld0 (t2)); (focus ((iterate 2 (all_goals (repeat' (first | exact sub_dead | (refine litF_sub rfl ?_; (focus ((repeat' (first | exact True.intro | refine And.intro ?_ ?_ | rfl)); done))) | exact sub_map rfl | exact map_same rfl | exact map_updc rfl | refine map_updc ?_ | refine map_same ?_ | refine map_mk ?_ ?_ | exact subL_nil | exact trivial | (intro Q h; refine h ?_; clear h Q) | refine And.intro ?_ ?_ | refine subL_cons ?_ ?_ | refine sub_agg ?_ | refine sub_tup ?_ | refine sub_fn ?_ | refine sub_bfn ?_ ?_ | refine var_mk ?_ | refine rd_var ?_ rfl | refine rd_rd ?_ | exact sub_ptr rfl rfl | exact sub_sl rfl rfl rfl | exact sub_refl_val _ _ | (refine sub_int ?_; first | with_reducible rfl | omega | ((try simp only [IntKind.wrap_i64, List.length_append, List.length_cons, List.length_nil, List.length_take, List.length_map, Int.toNat_natCast]); omega) | rfl) | exact sub_sb rfl | exact sub_sbl rfl | exact row_same rfl rfl rfl | exact row_ren rfl rfl rfl | (refine sub_sl rfl rfl ?_; first | with_reducible rfl | omega | ((try simp only [IntKind.wrap_i64, List.length_append, List.length_cons, List.length_nil, List.length_take, List.length_map, Int.toNat_natCast]); omega) | rfl) | exact sub_nil rfl | (refine sub_nil ?_; first | with_reducible rfl | omega | ((try simp only [IntKind.wrap_i64, List.length_append, List.length_cons, List.length_nil, List.length_take, List.length_map, Int.toNat_natCast]); omega) | rfl) | (refine virt_mk ?_; first | with_reducible rfl | omega | ((try simp only [IntKind.wrap_i64, List.length_append, List.length_cons, List.length_nil, List.length_take, List.length_map, Int.toNat_natCast]); omega) | rfl) | apply row_app1 | apply row_app2 | apply row_app1r | refine cells_succ ?_ ?_ | exact cell0 | with_reducible rfl | (refine And.left (b := True) ⟨?_, True.intro⟩; assumption) | (show (_ : Nat) = _; first | with_reducible rfl | omega | ((try simp only [IntKind.wrap_i64, List.length_append, List.length_cons, List.length_nil, List.length_take, List.length_map, Int.toNat_natCast]); omega) | rfl) | refine sub_int ?_ | refine sub_sb ?_ | refine sub_sbl ?_ | refine sub_sl rfl rfl ?_ | (apply row_lit rfl; (focus (refine cells_succ ?_ ?_))) | refine row_same rfl ?_ ?_ | refine row_ren rfl ?_ ?_)))); done)))
    | ((first | apply call0 (aw) | apply calld0 (aw)); (focus ((iterate 2 (all_goals (repeat' (first | exact sub_dead | (refine litF_sub rfl ?_; (focus ((repeat' (first | exact True.intro | refine And.intro ?_ ?_ | rfl)); done))) | exact sub_map rfl | exact map_same rfl | exact map_updc rfl | refine map_updc ?_ | refine map_same ?_ | refine map_mk ?_ ?_ | exact subL_nil | exact trivial | (intro Q h; refine h ?_; clear h Q) | refine And.intro ?_ ?_ | refine subL_cons ?_ ?_ | refine sub_agg ?_ | refine sub_tup ?_ | refine sub_fn ?_ | refine sub_bfn ?_ ?_ | refine var_mk ?_ | refine rd_var ?_ rfl | refine rd_rd ?_ | exact sub_ptr rfl rfl | exact sub_sl rfl rfl rfl | exact sub_refl_val _ _ | (refine sub_int ?_; first | with_reducible rfl | omega | ((try simp only [IntKind.wrap_i64, List.length_append, List.length_cons, List.length_nil, List.length_take, List.length_map, Int.toNat_natCast]); omega) | rfl) | exact sub_sb rfl | exact sub_sbl rfl | exact row_same rfl rfl rfl | exact row_ren rfl rfl rfl | (refine sub_sl rfl rfl ?_; first | with_reducible rfl | omega | ((try simp only [IntKind.wrap_i64, List.length_append, List.length_cons, List.length_nil, List.length_take, List.length_map, Int.toNat_natCast]); omega) | rfl) | exact sub_nil rfl | (refine sub_nil ?_; first | with_reducible rfl | omega | ((try simp only [IntKind.wrap_i64, List.length_append, List.length_cons, List.length_nil, List.length_take, List.length_map, Int.toNat_natCast]); omega) | rfl) | (refine virt_mk ?_; first | with_reducible rfl | omega | ((try simp only [IntKind.wrap_i64, List.length_append, List.length_cons, List.length_nil, List.length_take, List.length_map, Int.toNat_natCast]); omega) | rfl) | apply row_app1 | apply row_app2 | apply row_app1r | refine cells_succ ?_ ?_ | exact cell0 | with_reducible rfl | (refine And.left (b := True) ⟨?_, True.intro⟩; assumption) | (show (_ : Nat) = _; first | with_reducible rfl | omega | ((try simp only [IntKind.wrap_i64, List.length_append, List.length_cons, List.length_nil, List.length_take, List.length_map, Int.toNat_natCast]); omega) | rfl) | refine sub_int ?_ | refine sub_sb ?_ | refine sub_sbl ?_ | refine sub_sl rfl rfl ?_ | (apply row_lit rfl; (focus (refine cells_succ ?_ ?_))) | refine row_same rfl ?_ ?_ | refine row_ren rfl ?_ ?_)))); done)))
    | (apply ret_mk []; (focus (iterate 2 (all_goals (repeat' (first | exact sub_dead | (refine litF_sub rfl ?_; (focus ((repeat' (first | exact True.intro | refine And.intro ?_ ?_ | rfl)); done))) | exact sub_map rfl | exact map_same rfl | exact map_updc rfl | refine map_updc ?_ | refine map_same ?_ | refine map_mk ?_ ?_ | exact subL_nil | exact trivial | (intro Q h; refine h ?_; clear h Q) | refine And.intro ?_ ?_ | refine subL_cons ?_ ?_ | refine sub_agg ?_ | refine sub_tup ?_ | refine sub_fn ?_ | refine sub_bfn ?_ ?_ | refine var_mk ?_ | refine rd_var ?_ rfl | refine rd_rd ?_ | exact sub_ptr rfl rfl | exact sub_sl rfl rfl rfl | exact sub_refl_val _ _ | (refine sub_int ?_; first | with_reducible rfl | omega | ((try simp only [IntKind.wrap_i64, List.length_append, List.length_cons, List.length_nil, List.length_take, List.length_map, Int.toNat_natCast]); omega) | rfl) | exact sub_sb rfl | exact sub_sbl rfl | exact row_same rfl rfl rfl | exact row_ren rfl rfl rfl | (refine sub_sl rfl rfl ?_; first | with_reducible rfl | omega | ((try simp only [IntKind.wrap_i64, List.length_append, List.length_cons, List.length_nil, List.length_take, List.length_map, Int.toNat_natCast]); omega) | rfl) | exact sub_nil rfl | (refine sub_nil ?_; first | with_reducible rfl | omega | ((try simp only [IntKind.wrap_i64, List.length_append, List.length_cons, List.length_nil, List.length_take, List.length_map, Int.toNat_natCast]); omega) | rfl) | (refine virt_mk ?_; first | with_reducible rfl | omega | ((try simp only [IntKind.wrap_i64, List.length_append, List.length_cons, List.length_nil, List.length_take, List.length_map, Int.toNat_natCast]); omega) | rfl) | apply row_app1 | apply row_app2 | apply row_app1r | refine cells_succ ?_ ?_ | exact cell0 | with_reducible rfl | (refine And.left (b := True) ⟨?_, True.intro⟩; assumption) | (show (_ : Nat) = _; first | with_reducible rfl | omega | ((try simp only [IntKind.wrap_i64, List.length_append, List.length_cons, List.length_nil, List.length_take, List.length_map, Int.toNat_natCast]); omega) | rfl) | refine sub_int ?_ | refine sub_sb ?_ | refine sub_sbl ?_ | refine sub_sl rfl rfl ?_ | (apply row_lit rfl; (focus (refine cells_succ ?_ ?_))) | refine row_same rfl ?_ ?_ | refine row_ren rfl ?_ ?_))))); (any_goals (apply okIx_mk; rfl)))
    | omega))
  all_goals (try simp only [f1, f2, f3, f4] at *)
  all_goals (exfalso; first | (simp at hb; done) | (simp [f1, f2, f3, f4] at hb; done) | fail)
end Go.Vx.L55

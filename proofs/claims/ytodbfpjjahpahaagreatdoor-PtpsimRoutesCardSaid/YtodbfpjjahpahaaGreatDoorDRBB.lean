/- Lemmas of a small executor for the model, and contracts of functions, used for the law that this claim proves. No condition. -/
import Derived.Test.YtodbfpjjahpahaaGreatDoorDW3
import Derived.Test.YtodbfpjjahpahaaGreatDoorDRBA
import Derived.Test.YtodbfpjjahpahaaGreatDoorDPC
import Derived.Test.YtodbfpjjahpahaaGreatDoorDP17
set_option linter.unusedSimpArgs false
set_option linter.unusedVariables false
set_option maxRecDepth 100000
namespace Go.Vx.L58
open Go Go.Proofs
theorem capL_two {n : Nat} (h : 2 ≤ n) : capL n = none := by
 match n, h with
 | n + 2, _ => rfl
set_option maxHeartbeats 4000000 in
theorem rRoute_ok (s : Scn) (ok : SOk s) (v : Int) :
  (ckS s ≠ 0 → Runs Tryz.prog 16 [scA s, .val (.int .i64 v)] (scB s) (Det (.tup [.val (.slice none 0 0), .val (.int .i64 (ckS s))]) (scB s))) ∧
  (ckS s = 0 → ¬ (0 ≤ v ∧ v < s.ns.length) → Runs Tryz.prog 16 [scA s, .val (.int .i64 v)] (scB s) (Det (.tup [.val (.slice none 0 0), .val (.int .i64 3)]) (scB s))) ∧
  (ckS s = 0 → 0 ≤ v ∧ v < s.ns.length → Runs Tryz.prog 16 [scA s, .val (.int .i64 v)] (scB s) (Det (.tup [.sl 8 1 0 (upL s v.toNat).length (capL (upL s v.toNat).length), .val (.int .i64 0)]) [gB s.l, ndB s.ns, osB s.os s.hd, osR s.os s.hd, iB false s.dn, iB false s.up, blB s.tr, iB false s.st, .arr true 3 1 (upL s v.toNat).length (intF (upL s v.toNat).reverse)])) := by
 have hn := ok.hn
 have hck := rscheck_ok s ok
 refine ⟨fun hc => ?_, fun hc hv => ?_, fun hc hv => ?_⟩
 ·generalize ckS s = c at *
  refine Runs.mk tabOK Tryz.call16 Tryz.func16 rfl Tryz.ntmps16 Tryz.results16 rfl ?_
  (repeat' (first
  | (intro Q h; refine h ?_; clear h Q)
  | (refine bcase_mk (fun hb => ?_) (fun hb => ?_) <;> (try simp only [nS, nT, eq_self, reduceCtorEq] at hb) <;> (try (exfalso; omega)))
  | refine seq_go ?_
  | ((first | apply call_detx [some 0, some 1, some 2, some 3, some 4, some 5, some 6, some 7] (hck) ); exact AS; any_goals (apply nodup_mk; rfl))
  | (apply ret_mk [some 0, some 1, some 2, some 3, some 4, some 5, some 6, some 7]; exact AS; any_goals (apply okIx_mk; rfl))
  ))
 ·rw [hc] at hck
  refine Runs.mk tabOK Tryz.call16 Tryz.func16 rfl Tryz.ntmps16 Tryz.results16 rfl ?_
  (repeat' (first
  | (intro Q h; refine h ?_; clear h Q)
  | (refine bcase_mk (fun hb => ?_) (fun hb => ?_) <;> (try simp only [nS, nT, eq_self, reduceCtorEq] at hb) <;> (try (exfalso; omega)))
  | refine seq_go ?_
  | ((first | apply call_detx [some 0, some 1, some 2, some 3, some 4, some 5, some 6, some 7] (hck) ); exact AS; any_goals (apply nodup_mk; rfl))
  | (apply ret_mk [some 0, some 1, some 2, some 3, some 4, some 5, some 6, some 7]; exact AS; any_goals (apply okIx_mk; rfl))
  ))
 obtain ⟨v, rfl⟩ := Int.eq_ofNat_of_zero_le hv.1
 have hvl : v < s.ns.length := by omega
 have hpa := parents_ok s ok hc
 have hro := rroute_ok s ok hc v hvl
 rw [hc] at hck
 rw [Int.toNat_natCast]
 generalize upL s v = U at *
 generalize ptS s = P at *
 refine Runs.mk tabOK Tryz.call16 Tryz.func16 rfl Tryz.ntmps16 Tryz.results16 rfl ?_
 (repeat' (first
  | (intro Q h; refine h ?_; clear h Q)
  | (refine bcase_mk (fun hb => ?_) (fun hb => ?_) <;> (try simp only [nS, nT, eq_self, reduceCtorEq] at hb) <;> (try (exfalso; omega)))
  | refine draw_mk (by decide +kernel) ?_
  | refine seq_go ?_
  | ((first | apply call_detx [some 0, some 1, some 2, some 3, some 4, some 5, some 6, some 7] (hck) ); exact AS; any_goals (apply nodup_mk; rfl))
  | ((first | apply calld_detx [some 0, some 1, some 2, some 3, some 4, some 5, some 6, some 7] (hpa)); exact AS; (any_goals (first | (apply nodup_mk2; rfl) )))
  | ((first | apply calld_detx [some 0, some 1, some 2, some 3, some 4, some 5, some 6, some 7, some _] (hro)); exact AS; (any_goals (first | (apply nodup_mk2; rfl) )))
  | (apply ret_mk [some 0, some 1, some 2, some 3, some 4, some 5, some 6, some 7, some _]; exact AS; any_goals (apply okIx_mk; rfl))
  ))
theorem way_parts (s : Scn) (ok : SOk s) (hc : ckS s = 0) {v : Nat} (hv : v < s.ns.length) (hU : 2 ≤ (upL s v).length) {x : Nat} (hx : x < wyM s v) :
  wyM s v + 1 ≤ (upL s v).length ∧ ∃ y : Nat, y < s.ns.length ∧ (upL s v).reverse.getD ((upL s v).length - 1 - wyM s v + (x + 1)) 0 = (y : Int) ∧ (upF s y (ptM s y)).t = (wyS s v).T.getD x 0 ∧ (upF s y (ptM s y)).b = (wyS s v).B.getD x 0 := by
 have hM := wyM_bd ok hc hv
 have hb := upL_bd ok hc hv
 have e1 : (wyS s v).T.getD x 0 = ((trS s).getD ((upL s v).getD (wyM s v - x - 1) 0).toNat br0).t := rvF_get (fun i => ((trS s).getD ((upL s v).getD (i - 1) 0).toNat br0).t) (wyM s v) (wyM s v) x hx
 have e2 : (wyS s v).B.getD x 0 = ((trS s).getD ((upL s v).getD (wyM s v - x - 1) 0).toNat br0).b := rvF_get (fun i => ((trS s).getD ((upL s v).getD (i - 1) 0).toNat br0).b) (wyM s v) (wyM s v) x hx
 have hr := rev_getD (upL s v) ((upL s v).length - 1 - wyM s v + (x + 1)) (by omega)
 rw [show (upL s v).length - 1 - ((upL s v).length - 1 - wyM s v + (x + 1)) = wyM s v - x - 1 by omega] at hr
 have hy := hb.2 (wyM s v - x - 1) (by omega)
 have hst := (upL_step (s := s) (v := v) (j := wyM s v - x - 1) (by omega)).1
 obtain ⟨y, e⟩ := Int.eq_ofNat_of_zero_le hy.1
 rw [e] at hr hy hst e1 e2
 rw [Int.toNat_natCast] at hst e1 e2
 rcases pt_par ok hc (x := y) (by omega) with ⟨_, h2⟩ | ⟨_, h2, _⟩
 ·rw [h2] at hst; exact absurd hst (by decide)
 ·refine ⟨hM, y, by omega, hr, ?_, ?_⟩
  ·rw [e1, h2]
  ·rw [e2, h2]
set_option maxHeartbeats 8000000 in
theorem rError_ok (s : Scn) (ok : SOk s) (v t : Int) :
  (ckS s ≠ 0 → Runs Tryz.prog 17 [scA s, .val (.int .i64 v), .val (.int .i64 t)] (scB s) (Det (.tup [.val (.int .i64 0), .val (.int .i64 (ckS s))]) (scB s))) ∧
  (ckS s = 0 → ¬ (0 ≤ v ∧ v < s.ns.length ∧ 0 ≤ t ∧ t ≤ 562949953421312) → Runs Tryz.prog 17 [scA s, .val (.int .i64 v), .val (.int .i64 t)] (scB s) (Det (.tup [.val (.int .i64 0), .val (.int .i64 3)]) (scB s))) ∧
  (ckS s = 0 → 0 ≤ v ∧ v < s.ns.length ∧ 0 ≤ t ∧ t ≤ 562949953421312 → Runs Tryz.prog 17 [scA s, .val (.int .i64 v), .val (.int .i64 t)] (scB s) (Det (.tup [.val (.int .i64 (erS s v.toNat)), .val (.int .i64 0)]) (scB s))) := by
 have hmx : maxLen = 9223372036854775807 := by decide
 have hn := ok.hn
 have hck := rscheck_ok s ok
 refine ⟨fun hc => ?_, fun hc hv => ?_, fun hc hv => ?_⟩
 ·generalize ckS s = c at *
  refine Runs.mk tabOK Tryz.call17 Tryz.func17 rfl Tryz.ntmps17 Tryz.results17 rfl ?_
  (repeat' (first
  | (intro Q h; refine h ?_; clear h Q)
  | (refine bcase_mk (fun hb => ?_) (fun hb => ?_) <;> (try simp only [nS, nT, eq_self, reduceCtorEq] at hb) <;> (try (exfalso; omega)))
  | refine seq_go ?_
  | ((first | apply call_detx [some 0, some 1, some 2, some 3, some 4, some 5, some 6, some 7] (hck) ); exact AS; any_goals (apply nodup_mk; rfl))
  | (apply ret_mk [some 0, some 1, some 2, some 3, some 4, some 5, some 6, some 7]; exact AS; any_goals (apply okIx_mk; rfl))
  ))
 ·rw [hc] at hck
  refine Runs.mk tabOK Tryz.call17 Tryz.func17 rfl Tryz.ntmps17 Tryz.results17 rfl ?_
  (repeat' (first
  | (intro Q h; refine h ?_; clear h Q)
  | (refine bcase_mk (fun hb => ?_) (fun hb => ?_) <;> (try simp only [nS, nT, eq_self, reduceCtorEq] at hb) <;> (try (exfalso; omega)))
  | refine seq_go ?_
  | ((first | apply call_detx [some 0, some 1, some 2, some 3, some 4, some 5, some 6, some 7] (hck) ); exact AS; any_goals (apply nodup_mk; rfl))
  | (apply ret_mk [some 0, some 1, some 2, some 3, some 4, some 5, some 6, some 7]; exact AS; any_goals (apply okIx_mk; rfl))
  ))
 obtain ⟨v, rfl⟩ := Int.eq_ofNat_of_zero_le hv.1
 have hvl : v < s.ns.length := by omega
 have hpa := parents_ok s ok hc
 have hro := rroute_ok s ok hc v hvl
 have hpg : ∀ y, y < s.ns.length → (ptS s).getD y 0 = ptM s y := ptP_get s s.ns.length
 have hpl : (ptS s).length = s.ns.length := ptP_len s _
 obtain ⟨_, ⟨L1, L2, L3, L4, L5⟩, _, _⟩ := ckS_parts hc
 obtain ⟨hN, hn24, hl64, _⟩ := sc_parts ok hc
 obtain ⟨m', _, _, _, hed⟩ := ckC_parts hN.parts.1
 have hb := upL_bd ok hc hvl
 have hen := upL_end ok hc hvl
 have hhd : (upL s v).getD 0 0 = (v : Int) := clF_hd ..
 have hez : ((v : Int)).toNat = v := by omega
 rw [hez]
 rw [hc] at hck
 have hzv : 0 + Int.toNat (v : Int) = v := by omega
 have hpv : (ptS s).getD (0 + Int.toNat (v : Int)) 0 = ptM s v := by rw [hzv]; exact hpg v hvl
 rcases pt_par ok hc hvl with ⟨e0, e1⟩ | ⟨⟨e0, e0'⟩, e1, y0, q0, _, e3, _⟩
 ·have hU1 : (upL s v).length = 1 := by
   rcases Nat.lt_or_ge 1 (upL s v).length with h | h
   ·have := (upL_step (s := s) (v := v) (j := 0) (by omega)).1
    rw [hhd, Int.toNat_natCast, e1] at this
    exact absurd this (by decide)
   ·omega
  have hE : erS s v = 0 := by
   have : wyM s v = 0 := by have := wyM_bd ok hc hvl; omega
   unfold erS
   rw [this]
   simp only [smL]
   omega
  rw [hE]
  rw [e0] at hpv
  generalize ptS s = P at *
  refine Runs.mk tabOK Tryz.call17 Tryz.func17 rfl Tryz.ntmps17 Tryz.results17 rfl ?_
  (repeat' (first
  | (intro Q h; refine h ?_; clear h Q)
  | (refine bcase_mk (fun hb => ?_) (fun hb => ?_) <;> (try simp only [nS, nT, eq_self, reduceCtorEq] at hb) <;> (try (exfalso; omega)))
  | refine seq_go ?_
  | refine And.intro (by first | omega | ((try simp only [wS]); omega) | rfl | decide) ?_
  | ((first | apply call_detx [some 0, some 1, some 2, some 3, some 4, some 5, some 6, some 7] (hck) ); exact AS; any_goals (apply nodup_mk; rfl))
  | ((first | apply call_detx [some 0, some 1, some 2, some 3, some 4, some 5, some 6, some 7] (hpa) ); exact AS; any_goals (apply nodup_mk; rfl))
  | (apply ret_mk [some 0, some 1, some 2, some 3, some 4, some 5, some 6, some 7]; exact AS; any_goals (apply okIx_mk; rfl))
  ))
 have hU2 : 2 ≤ (upL s v).length := by
  rcases Nat.lt_or_ge 1 (upL s v).length with h | h
  ·omega
  ·exfalso
   rw [show (upL s v).length - 1 = 0 by omega, hhd, Int.toNat_natCast, e3] at hen
   omega
 rw [capL_two hU2] at hro
 have hwa := rway_ok s (by omega) (upL s v) hU2 (by omega) hb.2
 rw [show wM s.tr (upL s v) = wyM s v from rfl] at hwa
 have hwp := fun x hx => way_parts s ok hc hvl hU2 (x := x) hx
 obtain ⟨hbd, h24⟩ := erS_bd ok hc hvl
 have her : erS s v = (smL (wyS s v).T (wyM s v) - smL (wyS s v).B (wyM s v) + 1) / 2 := rfl
 have hde := fun x hx b => rdelay_ok s (by omega) (by omega) (by omega) (fun i hi => (hed (s.l.getD i ed0) (by
  rw [List.getD_eq_getElem?_getD, List.getElem?_eq_getElem hi]; exact List.getElem_mem hi)).2.2) (ptS s) x hx b
 have hMb := wyM_bd ok hc hvl
 rw [hpl] at hde
 rw [← hpv] at e0 e0'
 generalize ptS s = P at *
 generalize erS s v = E at *
 generalize wyS s v = W at *
 generalize wyM s v = M at *
 generalize upL s v = U at *
 have hs1 : ∀ k, smL W.T (k + 1) = smL W.T k + W.T.getD k 0 := fun _ => rfl
 have hs2 : ∀ k, smL W.B (k + 1) = smL W.B k + W.B.getD k 0 := fun _ => rfl
 have hs3 : smL W.T 0 = 0 := rfl
 have hs4 : smL W.B 0 = 0 := rfl
 generalize smL W.T = ST at *
 generalize smL W.B = SB at *
 refine Runs.mk tabOK Tryz.call17 Tryz.func17 rfl Tryz.ntmps17 Tryz.results17 rfl ?_
 (repeat' (first
  | (intro Q h; refine h ?_; clear h Q)
  | (refine bcase_mk (fun hb => ?_) (fun hb => ?_) <;> (try simp only [nS, nT, eq_self, reduceCtorEq] at hb) <;> (try (exfalso; omega)))
  | refine draw_mk (by decide +kernel) ?_
  | refine seq_go ?_
  | refine And.intro (by first | omega | ((try simp only [wS]); omega) | rfl | decide) ?_
  | ((first | apply call_detx [some 0, some 1, some 2, some 3, some 4, some 5, some 6, some 7] (hck) ); exact AS; any_goals (apply nodup_mk; rfl))
  | ((first | apply call_detx [some 0, some 1, some 2, some 3, some 4, some 5, some 6, some 7] (hpa) ); exact AS; any_goals (apply nodup_mk; rfl))
  | ((first | apply calld_detx [some 0, some 1, some 2, some 3, some 4, some 5, some 6, some 7, some 9] (hro)); exact AS; (any_goals (first | (apply nodup_mk2; rfl) )))
  | ((first | apply calld_detx [some 0, some 1, some 2, some 3, some 4, some 5, some 6, some 7, some 10] (hwa)); exact AS; (any_goals (first | (apply nodup_mk2; rfl) )))
  ))
 refine loop_inv (σ := Nat) (fun x => x ≤ M) (fun x => ⟨[(3, .ptr 8 8 0 0), (9, .sl 9 1 0 s.ns.length none), (10, .sl 10 1 (U.length - 1 - M) (M + 1) none), (11, .val (.int .i64 (ST x - SB x))), (12, .val (.int .i64 ((x : Int) + 1)))], [gB s.l, ndB s.ns, osB s.os s.hd, osR s.os s.hd, iB false s.dn, iB false s.up, blB s.tr, iB false s.st, .var (scV s), .arr true 3 1 s.ns.length (intF P), .arr true 3 1 U.length (intF U.reverse)]⟩) (fun x => M - x) (0) ?_ ?_ ?_
 ·omega
 ·(apply le_mk [some 0, some 1, some 2, some 3, some 4, some 5, some 6, some 7, some 8, some 9, some 10]; exact AS; any_goals (apply okIx_mk; rfl))
 rintro x hx
 have hb := hbd x hx
 by_cases hl : x < M
 ·have hb2 := hbd (x + 1) hl
  have h1 := hs1 x
  have h2 := hs2 x
  obtain ⟨_, y, hy, f1, f2, f3⟩ := hwp x hl
  have hd1 := hde y hy true
  have hd2 := hde y hy false
  simp only [if_true, Bool.false_eq_true, if_false] at hd1 hd2
  rw [hpg y hy] at hd1 hd2
  rw [f2] at hd1
  rw [f3] at hd2
  have hix : U.length - 1 - M + Int.toNat ((x : Int) + 1) = U.length - 1 - M + (x + 1) := by omega
  rw [← f1, ← hix] at hd1 hd2
  (repeat' (first
  | (intro Q h; refine h ?_; clear h Q)
  | (refine bcase_mk (fun hb => ?_) (fun hb => ?_) <;> (try simp only [nS, nT, eq_self, reduceCtorEq] at hb) <;> (try (exfalso; omega)))
  | refine draw_mk (by decide +kernel) ?_
  | refine seq_go ?_
  | refine And.intro (by first | omega | ((try simp only [wS]); omega) | rfl | decide) ?_
  | ((first | apply calld_detx [some 0, some 1, some 2, some 3, some 4, some 5, some 6, some 7, some 9] (hd1)); exact AS; (any_goals (first | (apply nodup_mk2; rfl) )))
  | ((first | apply calld_detx [some 0, some 1, some 2, some 3, some 4, some 5, some 6, some 7, some 9] (hd2)); exact AS; (any_goals (first | (apply nodup_mk2; rfl) )))
  | (apply next_sub (Subtype.mk (x + 1) _); (focus (apply le_mk [some 0, some 1, some 2, some 3, some 4, some 5, some 6, some 7, some 8, some 9, some 10]; (focus (iterate 2 (all_goals (repeat' (first | exact rows_same rfl rfl rfl rfl | exact os_same rfl rfl rfl rfl | exact subL_nil | exact trivial | (intro Q h; refine h ?_; clear h Q) | refine And.intro ?_ ?_ | refine subL_cons ?_ ?_ | refine var_mk ?_ | exact sub_ptr rfl rfl | exact sub_sl rfl rfl rfl | exact sub_refl_val _ _ | exact row_same rfl rfl rfl | ((refine sub_int ?_); first | with_reducible rfl | omega | ((try simp only [wS]); omega) | rfl) ))))); any_goals (apply okIx_mk; rfl))); (all_goals (try (first | omega | (simp only; omega)))))
  ))
 ·obtain rfl : x = M := by omega
  (repeat' (first
  | (intro Q h; refine h ?_; clear h Q)
  | (refine bcase_mk (fun hb => ?_) (fun hb => ?_) <;> (try simp only [nS, nT, eq_self, reduceCtorEq] at hb) <;> (try (exfalso; omega)))
  | refine seq_go ?_
  | refine And.intro (by first | omega | ((try simp only [wS]); omega) | rfl | decide) ?_
  | (apply ret_mk [some 0, some 1, some 2, some 3, some 4, some 5, some 6, some 7]; (focus (iterate 2 (all_goals (repeat' (first | exact rows_same rfl rfl rfl rfl | exact os_same rfl rfl rfl rfl | exact subL_nil | exact trivial | (intro Q h; refine h ?_; clear h Q) | refine And.intro ?_ ?_ | refine subL_cons ?_ ?_ | refine sub_tup ?_ | exact sub_refl_val _ _ | exact row_same rfl rfl rfl | refine sub_int ?_ ))))); any_goals (apply okIx_mk; rfl))
  ))
  all_goals (rw [show (2 : Int) ^ min (Int.toNat 1) IntKind.i64.bits = 2 from rfl, Int.fdiv_eq_ediv_of_nonneg _ (by decide), IntKind.wrap_i64, her]; omega)
end Go.Vx.L58
set_option maxRecDepth 100000
namespace Go.Vx.L58
open Go Go.Proofs
theorem err_both (s : Scn) (ok : SOk s) (v t : Int) : ∃ n e : Int, Runs Tryz.prog 14 [scA s, .val (.int .i64 v), .val (.int .i64 t)] (scB s) (Det (.tup [.val (.int .i64 n), .val (.int .i64 e)]) (scB s)) ∧
  Runs Tryz.prog 17 [scA s, .val (.int .i64 v), .val (.int .i64 t)] (scB s) (Det (.tup [.val (.int .i64 n), .val (.int .i64 e)]) (scB s)) := by
 obtain ⟨a1, a2, a3⟩ := error_ok s ok v t
 obtain ⟨b1, b2, b3⟩ := rError_ok s ok v t
 by_cases hc : ckS s = 0
 ·by_cases hv : 0 ≤ v ∧ v < s.ns.length ∧ 0 ≤ t ∧ t ≤ 562949953421312
  ·exact ⟨_, _, a3 hc hv, b3 hc hv⟩
  ·exact ⟨_, _, a2 hc hv, b2 hc hv⟩
 ·exact ⟨_, _, a1 hc, b1 hc⟩
set_option maxHeartbeats 8000000 in
theorem ptpsimRoutes (s : Scn) (ok : SOk s) (v t : Int) : Runs Tryz.prog 6 [scA s, .val (.int .i64 v), .val (.int .i64 t)] (scB s) (Det (.sb true) (scB s)) := by
 have hmx : maxLen = 9223372036854775807 := by decide
 have haw := awake_ok
 have hfw := few_ok s
 cases hf0 : fewB s
 ·rw [hf0] at hfw
  refine Runs.mk tabOK Tryz.call6 Tryz.func6 rfl Tryz.ntmps6 Tryz.results6 rfl ?_
  (repeat' (first
  | (intro Q h; refine h ?_; clear h Q)
  | (refine bcase_mk (fun hb => ?_) (fun hb => ?_) <;> (try simp only [nS, nT, eq_self, reduceCtorEq] at hb) <;> (try (exfalso; fail; done)))
  | refine seq_go ?_
  | ((first | apply call_detx [some 0, some 1, some 2, some 3, some 4, some 5, some 6, some 7] (hfw) ); exact AS; any_goals (apply nodup_mk; rfl))
  | ((first | apply call0 (haw) ); exact AS)
  | (apply ret_mk [some 0, some 1, some 2, some 3, some 4, some 5, some 6, some 7]; exact AS; any_goals (apply okIx_mk; rfl))
  ))
 rw [hf0] at hfw
 obtain ⟨n, e, e1, e2⟩ := err_both s ok v t
 obtain ⟨a1, a2, a3⟩ := route_ok s ok v
 obtain ⟨b1, b2, b3⟩ := rRoute_ok s ok v
 by_cases hcv : ckS s = 0 ∧ 0 ≤ v ∧ v < s.ns.length
 rotate_left
 ·have ho : ∃ c : Int, Runs Tryz.prog 15 [scA s, .val (.int .i64 v)] (scB s) (Det (.tup [.val (.slice none 0 0), .val (.int .i64 c)]) (scB s)) ∧ Runs Tryz.prog 16 [scA s, .val (.int .i64 v)] (scB s) (Det (.tup [.val (.slice none 0 0), .val (.int .i64 c)]) (scB s)) := by
   by_cases hc : ckS s = 0
   ·exact ⟨_, a2 hc (fun h => hcv ⟨hc, h⟩), b2 hc (fun h => hcv ⟨hc, h⟩)⟩
   ·exact ⟨_, a1 hc, b1 hc⟩
  obtain ⟨c, r1, r2⟩ := ho
  refine Runs.mk tabOK Tryz.call6 Tryz.func6 rfl Tryz.ntmps6 Tryz.results6 rfl ?_
  (repeat' (first
  | (intro Q h; refine h ?_; clear h Q)
  | refine bcase_t (by first | exact beq_self_eq_true _ | decide) ?_
  | refine bcase_f (by decide) ?_
  | (refine bcase_mk (fun hb => ?_) (fun hb => ?_) <;> (try simp only [nS, nT, eq_self, reduceCtorEq] at hb) <;> (try (exfalso; fail; done)))
  | refine seq_go ?_
  | ((first | apply call_detx [some 0, some 1, some 2, some 3, some 4, some 5, some 6, some 7] (hfw) ); exact AS; any_goals (apply nodup_mk; rfl))
  | ((first | apply call_detx [some 0, some 1, some 2, some 3, some 4, some 5, some 6, some 7] (r1) ); exact AS; any_goals (apply nodup_mk; rfl))
  | ((first | apply call_detx [some 0, some 1, some 2, some 3, some 4, some 5, some 6, some 7] (r2) ); exact AS; any_goals (apply nodup_mk; rfl))
  | (refine loop_go 1 ?_)
  | ((first | apply call_detx [some 0, some 1, some 2, some 3, some 4, some 5, some 6, some 7] (e1) ); exact AS; any_goals (apply nodup_mk; rfl))
  | ((first | apply call_detx [some 0, some 1, some 2, some 3, some 4, some 5, some 6, some 7] (e2) ); exact AS; any_goals (apply nodup_mk; rfl))
  | ((first | apply call0 (haw) ); exact AS)
  | (apply ret_mk [some 0, some 1, some 2, some 3, some 4, some 5, some 6, some 7]; exact AS; any_goals (apply okIx_mk; rfl))
  ))
 obtain ⟨hc, hv⟩ := hcv
 have r1 := a3 hc hv
 have r2 := b3 hc hv
 have hvn : v.toNat < s.ns.length := by omega
 have hU := upL_bd ok hc hvn
 obtain ⟨_, hn24, _, _⟩ := sc_parts ok hc
 rw [show clF (trS s) (s.ns.length - 1) v.toNat = upL s v.toNat from rfl] at r1
 unfold iB at r1
 rw [List.length_reverse] at r1
 generalize upL s v.toNat = U at *
 refine Runs.mk tabOK Tryz.call6 Tryz.func6 rfl Tryz.ntmps6 Tryz.results6 rfl ?_
 (repeat' (first
  | (intro Q h; refine h ?_; clear h Q)
  | (refine bcase_mk (fun hb => ?_) (fun hb => ?_) <;> (try simp only [nS, nT, eq_self, reduceCtorEq] at hb) <;> (try (exfalso; fail; done)))
  | refine seq_go ?_
  | ((first | apply call_detx [some 0, some 1, some 2, some 3, some 4, some 5, some 6, some 7] (hfw) ); exact AS; any_goals (apply nodup_mk; rfl))
  | ((first | apply call_detx [some 0, some 1, some 2, some 3, some 4, some 5, some 6, some 7] (r1) ); exact AS; any_goals (apply nodup_mk; rfl))
  | ((first | apply call_detx [some 0, some 1, some 2, some 3, some 4, some 5, some 6, some 7] (r2) ); exact AS; any_goals (apply nodup_mk; rfl))
  ))
 refine loop_inv (σ := Nat) (fun x => x ≤ U.length) (fun x => ⟨[(1, .val (.int .i64 v)), (2, .val (.int .i64 t)), (3, .ptr 8 8 0 0), (7, .sl 9 1 0 U.length none), (9, .sl 10 1 0 U.length (capL U.length)), (41, .val (.int .i64 U.length)), (42, .val (.int .i64 x))], [gB s.l, ndB s.ns, osB s.os s.hd, osR s.os s.hd, iB false s.dn, iB false s.up, blB s.tr, iB false s.st, .var (scV s), .arr true 3 1 U.length (intF U.reverse), .arr true 3 1 U.length (intF U.reverse)]⟩) (fun x => U.length - x) (0) ?_ ?_ ?_
 ·omega
 ·(apply le_mk [some 0, some 1, some 2, some 3, some 4, some 5, some 6, some 7, some 8, some 9, some 10]; exact AS; any_goals (apply okIx_mk; rfl))
 rintro x hx
 by_cases hxl : x < U.length
 ·(repeat' (first
  | (intro Q h; refine h ?_; clear h Q)
  | (refine bcase_mk (fun hb => ?_) (fun hb => ?_) <;> (try simp only [nS, nT, eq_self, reduceCtorEq] at hb) <;> (try (exfalso; omega)))
  | refine draw_mk (by decide +kernel) ?_
  | refine seq_go ?_
  | refine And.intro (by first | omega | ((try simp only [wS]); omega) | rfl | decide) ?_
  | (apply next_sub (Subtype.mk (x + 1) _); (focus (apply le_mk [some 0, some 1, some 2, some 3, some 4, some 5, some 6, some 7, some 8, some 9, some 10]; (focus (iterate 2 (all_goals (repeat' (first | exact rows_same rfl rfl rfl rfl | exact os_same rfl rfl rfl rfl | exact subL_nil | exact trivial | (intro Q h; refine h ?_; clear h Q) | refine And.intro ?_ ?_ | refine subL_cons ?_ ?_ | refine var_mk ?_ | exact sub_ptr rfl rfl | exact sub_sl rfl rfl rfl | exact sub_refl_val _ _ | exact row_same rfl rfl rfl | ((refine sub_int ?_); first | with_reducible rfl | omega | ((try simp only [wS]); omega) | rfl) ))))); any_goals (apply okIx_mk; rfl))); (all_goals (try (first | omega | (simp only; omega)))))
  ))
 ·(repeat' (first
  | (intro Q h; refine h ?_; clear h Q)
  | (refine bcase_mk (fun hb => ?_) (fun hb => ?_) <;> (try simp only [nS, nT, eq_self, reduceCtorEq] at hb) <;> (try (exfalso; omega)))
  | ((first | apply call_detx [some 0, some 1, some 2, some 3, some 4, some 5, some 6, some 7] (e1) ); exact AS; any_goals (apply nodup_mk; rfl))
  | ((first | apply call_detx [some 0, some 1, some 2, some 3, some 4, some 5, some 6, some 7] (e2) ); exact AS; any_goals (apply nodup_mk; rfl))
  | ((first | apply call0 (haw) ); exact AS)
  | (apply ret_mk [some 0, some 1, some 2, some 3, some 4, some 5, some 6, some 7]; exact AS; any_goals (apply okIx_mk; rfl))
  ))
end Go.Vx.L58

/- Lemmas of a small executor for the model, and contracts of functions, used for the law that this claim proves. No condition. -/
import Derived.Test.YtodbfpjjahpahaaGreatDoorDP16
import Derived.Test.YtodbfpjjahpahaaGreatDoorDW3
set_option linter.unusedSimpArgs false
set_option linter.unusedVariables false
set_option maxRecDepth 100000
namespace Go.Vx.L58
open Go Go.Proofs
section
variable {s : Scn} {v : Nat} {d : Int} {c : Option Nat}
end
end Go.Vx.L58
set_option maxRecDepth 100000
namespace Go.Vx.L58
open Go Go.Proofs Go.Vx.L58.PT
def smL (D : List Int) : Nat → Int
 | 0 => 0
 | k + 1 => smL D k + D.getD k 0
def Flat (s : Scn) : Prop := ∀ x, x < s.os.length → (s.os.getD x os0).sg = [⟨0, 0⟩]
def erS (s : Scn) (v : Nat) : Int := (smL (wyS s v).T (wyM s v) - smL (wyS s v).B (wyM s v) + 1) / 2
theorem erS_bd {s : Scn} (ok : SOk s) (hc : ckS s = 0) {v : Nat} (hv : v < s.ns.length) : (∀ k, k ≤ wyM s v → -(10000000000 * (k : Int)) ≤ smL (wyS s v).T k - smL (wyS s v).B k ∧ smL (wyS s v).T k - smL (wyS s v).B k ≤ 10000000000 * k) ∧ wyM s v ≤ 24 := by
 obtain ⟨l1, l2, l3⟩ := wyS_len s v
 have hM := wyM_bd ok hc hv
 have hU := upL_bd ok hc hv
 obtain ⟨_, hn, _, _⟩ := sc_parts ok hc
 by_cases hm : wyM s v = 0
 ·refine ⟨fun k hk => ?_, by omega⟩
  obtain rfl : k = 0 := by omega
  simp [smL]
 have hw := wyS_ok ok hc hv (by omega)
 have hb : ∀ i, i < wyM s v → 0 ≤ (wyS s v).B.getD i 0 ∧ (wyS s v).B.getD i 0 ≤ 10000000000 := fun i hi => by
  have := hw.2.dl (wyM s v - 1 - i) (by rw [List.length_reverse]; omega)
  rw [rev_getD _ _ (by omega), l3, show wyM s v - 1 - (wyM s v - 1 - i) = i by omega] at this
  exact this
 refine ⟨fun k hk => ?_, by omega⟩
 induction k with
 | zero => simp [smL]
 | succ k ih =>
  have ih := ih (by omega)
  have h1 := hw.1.dl k (by omega)
  have h2 := hb k (by omega)
  rw [smL, smL]
  omega
end Go.Vx.L58
set_option maxRecDepth 100000
namespace Go.Vx.L58
open Go Go.Proofs
set_option maxHeartbeats 8000000 in
theorem error_ok (s : Scn) (ok : SOk s) (v t : Int) :
  (ckS s ≠ 0 → Runs Tryz.prog 14 [scA s, .val (.int .i64 v), .val (.int .i64 t)] (scB s) (Det (.tup [.val (.int .i64 0), .val (.int .i64 (ckS s))]) (scB s))) ∧
  (ckS s = 0 → ¬ (0 ≤ v ∧ v < s.ns.length ∧ 0 ≤ t ∧ t ≤ 562949953421312) → Runs Tryz.prog 14 [scA s, .val (.int .i64 v), .val (.int .i64 t)] (scB s) (Det (.tup [.val (.int .i64 0), .val (.int .i64 3)]) (scB s))) ∧
  (ckS s = 0 → 0 ≤ v ∧ v < s.ns.length ∧ 0 ≤ t ∧ t ≤ 562949953421312 → Runs Tryz.prog 14 [scA s, .val (.int .i64 v), .val (.int .i64 t)] (scB s) (Det (.tup [.val (.int .i64 (erS s v.toNat)), .val (.int .i64 0)]) (scB s))) := by
 have hmx : maxLen = 9223372036854775807 := by decide
 have hn := ok.hn
 have hck := scheck_ok s ok
 refine ⟨fun hc => ?_, fun hc hv => ?_, fun hc hv => ?_⟩
 ·generalize ckS s = c at *
  refine Runs.mk tabOK Tryz.call14 Tryz.func14 rfl Tryz.ntmps14 Tryz.results14 rfl ?_
  (repeat' (first
  | (intro Q h; refine h ?_; clear h Q)
  | (refine bcase_mk (fun hb => ?_) (fun hb => ?_) <;> (try simp only [nS, nT, eq_self, reduceCtorEq] at hb) <;> (try (exfalso; omega)))
  | refine seq_go ?_
  | ((first | apply call_detx [some 0, some 1, some 2, some 3, some 4, some 5, some 6, some 7] (hck) ); exact AS; any_goals (apply nodup_mk; rfl))
  | (apply ret_mk [some 0, some 1, some 2, some 3, some 4, some 5, some 6, some 7]; exact AS; any_goals (apply okIx_mk; rfl))
  ))
 ·rw [hc] at hck
  refine Runs.mk tabOK Tryz.call14 Tryz.func14 rfl Tryz.ntmps14 Tryz.results14 rfl ?_
  (repeat' (first
  | (intro Q h; refine h ?_; clear h Q)
  | (refine bcase_mk (fun hb => ?_) (fun hb => ?_) <;> (try simp only [nS, nT, eq_self, reduceCtorEq] at hb) <;> (try (exfalso; omega)))
  | refine seq_go ?_
  | ((first | apply call_detx [some 0, some 1, some 2, some 3, some 4, some 5, some 6, some 7] (hck) ); exact AS; any_goals (apply nodup_mk; rfl))
  | (apply ret_mk [some 0, some 1, some 2, some 3, some 4, some 5, some 6, some 7]; exact AS; any_goals (apply okIx_mk; rfl))
  ))
 obtain ⟨v, rfl⟩ := Int.eq_ofNat_of_zero_le hv.1
 have hvl : v < s.ns.length := by omega
 have htr := tree_ok s ok hc
 have hT := trS_ok ok hc
 have hTl : (trS s).length = s.ns.length := trI_len ..
 obtain ⟨_, ⟨L1, L2, L3, L4, L5⟩, _, _⟩ := ckS_parts hc
 obtain ⟨_, hn24, _, _⟩ := sc_parts ok hc
 have hwy := wayof_ok s (trS s) hT (by omega) none v (by rw [hTl]; exact hvl)
 unfold brB at hwy
 rw [hTl] at hwy
 have hwl := wyS_len s v
 obtain ⟨hbd, h24⟩ := erS_bd ok hc hvl
 have her : erS s v = (smL (wyS s v).T (wyM s v) - smL (wyS s v).B (wyM s v) + 1) / 2 := rfl
 have e1 : wM s.tr (clF (trS s) (s.ns.length - 1) v) = wyM s v := rfl
 have e2 : wN (clF (trS s) (s.ns.length - 1) v) (wyM s v) (wyM s v + 1) = (wyS s v).N := rfl
 have e3 : wT (trS s) (clF (trS s) (s.ns.length - 1) v) (wyM s v) (wyM s v) = (wyS s v).T := rfl
 have e4 : wB (trS s) (clF (trS s) (s.ns.length - 1) v) (wyM s v) (wyM s v) = (wyS s v).B := rfl
 rw [e1, e2, e3, e4] at hwy
 have hez : ((v : Int)).toNat = v := by omega
 rw [hez]
 rw [hc] at hck
 generalize erS s v = E at *
 generalize wyS s v = W at *
 generalize wyM s v = M at *
 have hs1 : ∀ k, smL W.T (k + 1) = smL W.T k + W.T.getD k 0 := fun _ => rfl
 have hs2 : ∀ k, smL W.B (k + 1) = smL W.B k + W.B.getD k 0 := fun _ => rfl
 have hs3 : smL W.T 0 = 0 := rfl
 have hs4 : smL W.B 0 = 0 := rfl
 generalize smL W.T = ST at *
 generalize smL W.B = SB at *
 refine Runs.mk tabOK Tryz.call14 Tryz.func14 rfl Tryz.ntmps14 Tryz.results14 rfl ?_
 (repeat' (first
  | (intro Q h; refine h ?_; clear h Q)
  | (refine bcase_mk (fun hb => ?_) (fun hb => ?_) <;> (try simp only [nS, nT, eq_self, reduceCtorEq] at hb) <;> (try (exfalso; omega)))
  | refine draw_mk (by decide +kernel) ?_
  | refine seq_go ?_
  | ((first | apply call_detx [some 0, some 1, some 2, some 3, some 4, some 5, some 6, some 7] (hck) ); exact AS; any_goals (apply nodup_mk; rfl))
  | ((first | apply calld_detx [some 0, some 1, some 2, some 3, some 4, some 5, some 6, some 7] (htr)); exact AS; (any_goals (first | (apply nodup_mk2; rfl) )))
  | ((first | apply calld_detx [some 0, some 1, some 2, some 3, some 4, some 5, some 6, some 7, some 9] (hwy)); exact AS; (any_goals (first | (apply nodup_mk2; rfl) )))
  ))
 refine loop_inv (σ := Nat) (fun x => x ≤ M) (fun x => ⟨[(9, .ptr 13 3 0 0), (10, .val (.int .i64 (ST x - SB x))), (42, .val (.int .i64 M)), (43, .val (.int .i64 x))], [gB s.l, ndB s.ns, osB s.os s.hd, osR s.os s.hd, iB false s.dn, iB false s.up, blB s.tr, iB false s.st, .var (scV s), .arr true 95 3 s.ns.length (rowF brC br0 (trS s)), .arr true 3 1 (M + 1) (intF W.N), .arr true 3 1 M (intF W.T), .arr true 3 1 M (intF W.B), .var [.sl 10 1 0 (M + 1) none, .sl 11 1 0 M none, .sl 12 1 0 M none]]⟩) (fun x => M - x) (0) ?_ ?_ ?_
 ·omega
 ·(apply le_mk [some 0, some 1, some 2, some 3, some 4, some 5, some 6, some 7, some 8, some 9, some 10, some 11, some 12, some 13]; exact AS; any_goals (apply okIx_mk; rfl))
 rintro x hx
 have hb := hbd x hx
 by_cases hl : x < M
 ·have hb2 := hbd (x + 1) hl
  have hz : 0 + Int.toNat (x : Int) = x := by omega
  have h1 := hs1 x
  have h2 := hs2 x
  (repeat' (first
  | (intro Q h; refine h ?_; clear h Q)
  | (refine bcase_mk (fun hb => ?_) (fun hb => ?_) <;> (try simp only [nS, nT, eq_self, reduceCtorEq] at hb) <;> (try (exfalso; omega)))
  | refine draw_mk (by decide +kernel) ?_
  | refine seq_go ?_
  | refine And.intro (by first | omega | ((try simp only [wS]); omega) | rfl | decide) ?_
  | (apply next_sub (Subtype.mk (x + 1) _); (focus (apply le_mk [some 0, some 1, some 2, some 3, some 4, some 5, some 6, some 7, some 8, some 9, some 10, some 11, some 12, some 13]; (focus (iterate 2 (all_goals (repeat' (first | exact rows_same rfl rfl rfl rfl | exact os_same rfl rfl rfl rfl | exact subL_nil | exact trivial | (intro Q h; refine h ?_; clear h Q) | refine And.intro ?_ ?_ | refine subL_cons ?_ ?_ | refine var_mk ?_ | exact sub_ptr rfl rfl | exact sub_sl rfl rfl rfl | exact sub_refl_val _ _ | exact row_same rfl rfl rfl | ((refine sub_int ?_); first | with_reducible rfl | omega | ((try simp only [wS]); omega) | rfl) | refine sub_int ?_ ))))); any_goals (apply okIx_mk; rfl))); (all_goals (try (first | omega | (simp only; omega)))))
  ))
  all_goals (simp only [hz]; rw [IntKind.wrap_i64, IntKind.wrap_i64]; omega)
 ·obtain rfl : x = M := by omega
  (repeat' (first
  | (intro Q h; refine h ?_; clear h Q)
  | (refine bcase_mk (fun hb => ?_) (fun hb => ?_) <;> (try simp only [nS, nT, eq_self, reduceCtorEq] at hb) <;> (try (exfalso; omega)))
  | refine And.intro (by first | omega | ((try simp only [wS]); omega) | rfl | decide) ?_
  | (apply ret_mk [some 0, some 1, some 2, some 3, some 4, some 5, some 6, some 7]; (focus (iterate 2 (all_goals (repeat' (first | exact rows_same rfl rfl rfl rfl | exact os_same rfl rfl rfl rfl | exact subL_nil | exact trivial | (intro Q h; refine h ?_; clear h Q) | refine And.intro ?_ ?_ | refine subL_cons ?_ ?_ | refine sub_tup ?_ | exact sub_refl_val _ _ | exact row_same rfl rfl rfl | refine sub_int ?_ ))))); any_goals (apply okIx_mk; rfl))
  ))
  all_goals (rw [show (2 : Int) ^ min (Int.toNat 1) IntKind.i64.bits = 2 from rfl, Int.fdiv_eq_ediv_of_nonneg _ (by decide), IntKind.wrap_i64, her]; omega)
end Go.Vx.L58

/- Lemmas of a small executor for the model, and contracts of functions, used for the law that this claim proves. No condition. -/
import Derived.Test.YtodbfpjjahpahaaGreatDoorBP17
import Derived.Test.YtodbfpjjahpahaaGreatDoorBP19
set_option linter.unusedSimpArgs false
set_option linter.unusedVariables false
set_option maxRecDepth 100000
namespace Go.Vx.L58
open Go Go.Proofs
theorem os_mv {ρ : Nat → Option Nat} {os : List Osc} {hd : Nat → Value} {v q lo hi n : Nat} {t : Nat} {d : Int} {cs : List AV} {g : Nat → Nat → AV} (hq : q = v) (hlo : lo = 0) (hhi : hi = 1) (hn : n = os.length) (hv : v < os.length) (hc : sub ρ (.val (.int .i64 ((os.getD v os0).ph + d))) (cs.getD 0 .dead)) :
  BSub ρ (.arr false 45 2 os.length (osF 3 (mvO os v d) hd)) (.arr true t 2 n fun i' j' => bif Nat.beq i' q && (Nat.ble lo j' && Nat.blt j' hi) then cs.getD (j' - lo) .dead else appF 0 g (fun i j => osF 3 os hd (0 + i) j) i' j') := by
 subst hq hlo hhi hn
 refine .inl ⟨true, t, _, _, ⟨rfl, Nat.le_refl _⟩, (fun h => by cases h), fun i hi j hj => ?_⟩
 have hap : ∀ j, appF 0 g (fun i j => osF 3 os hd (0 + i) j) i j = osF 3 os hd i j := fun j => by
  show osF 3 os hd (0 + (i - 0)) j = _
  rw [Nat.zero_add, Nat.sub_zero]
 have hj' : j = 0 ∨ j = 1 := by omega
 rcases hj' with rfl | rfl
 ·by_cases e : i = q
  ·subst e
   simp only [Nat.beq_refl]
   show sub ρ (.val (.int .i64 ((mvO os i d).getD i os0).ph)) (cs.getD 0 .dead)
   rw [mvO_eq d hv]; exact hc
  ·simp only [show Nat.beq i q = false from beq_ne e, Bool.false_and, cond_false, hap]
   show sub ρ (.val (.int .i64 ((mvO os q d).getD i os0).ph)) (.val (.int .i64 (os.getD i os0).ph))
   rw [mvO_ne d e]; exact sub_refl_val _ _
 ·have : (Nat.beq i q && (Nat.ble 0 1 && Nat.blt 1 1)) = false := by
   cases Nat.beq i q <;> rfl
  simp only [this, cond_false, hap]
  exact sub_rsl (by rw [mvO_sg d hv]) rfl
set_option maxHeartbeats 8000000 in
theorem ptpsimPhases (s : Scn) (ok : SOk s) (v : Int) (d : Int) (hd : -2147483648 ≤ d ∧ d ≤ 2147483647) : Runs Tryz.prog 4 [scA s, .val (.int .i64 v), .val (.int .i32 d)] (scB s) (Det (.sb true) (scB s)) := by
 have hmx : maxLen = 9223372036854775807 := by decide
 have haw := awake_ok
 have hfw := few_ok s
 by_cases hf : fewB s = true ∧ 0 ≤ v ∧ v < s.os.length
 rotate_left
 ·cases hf0 : fewB s
  ·rw [hf0] at hfw
   refine Runs.mk tabOK Tryz.call4 Tryz.func4 rfl Tryz.ntmps4 Tryz.results4 rfl ?_
   (repeat' (first
  | (intro Q h; refine h ?_; clear h Q)
  | (refine bcase_mk (fun hb => ?_) (fun hb => ?_) <;> (try simp only [nS, nT, eq_self, reduceCtorEq] at hb) <;> (try (exfalso; fail; done)))
  | refine seq_go ?_
  | ((first | apply call_detx [some 0, some 1, some 2, some 3, some 4, some 5, some 6, some 7] (hfw) ); (focus ((iterate 2 (all_goals (repeat' (first | exact rows_same rfl rfl rfl rfl | exact os_same rfl rfl rfl rfl | exact subL_nil | exact trivial | (intro Q h; refine h ?_; clear h Q) | refine And.intro ?_ ?_ | refine subL_cons ?_ ?_ | refine sub_agg ?_ | exact sub_sl rfl rfl rfl | exact sub_refl_val _ _ | exact row_same rfl rfl rfl )))); done)); (any_goals (first | (apply nodup_mk; rfl) )))
  | ((first | apply call0 (haw) ); (focus (iterate 2 (all_goals (repeat' (first | exact subL_nil ))))))
  | (apply ret_mk [some 0, some 1, some 2, some 3, some 4, some 5, some 6, some 7]; (focus (iterate 2 (all_goals (repeat' (first | exact rows_same rfl rfl rfl rfl | exact os_same rfl rfl rfl rfl | exact trivial | (intro Q h; refine h ?_; clear h Q) | refine And.intro ?_ ?_ | exact sub_sb rfl | exact row_same rfl rfl rfl ))))); (any_goals (apply okIx_mk; rfl)))
  ))
  ·rw [hf0] at hfw
   have hf : ¬ (0 ≤ v ∧ v < s.os.length) := fun h => hf ⟨hf0, h⟩
   refine Runs.mk tabOK Tryz.call4 Tryz.func4 rfl Tryz.ntmps4 Tryz.results4 rfl ?_
   (repeat' (first
  | (intro Q h; refine h ?_; clear h Q)
  | (refine bcase_mk (fun hb => ?_) (fun hb => ?_) <;> (try simp only [nS, nT, eq_self, reduceCtorEq] at hb) <;> (try (exfalso; (first | omega ); done)))
  | refine seq_go ?_
  | ((first | apply call_detx [some 0, some 1, some 2, some 3, some 4, some 5, some 6, some 7] (hfw) ); (focus ((iterate 2 (all_goals (repeat' (first | exact rows_same rfl rfl rfl rfl | exact os_same rfl rfl rfl rfl | exact subL_nil | exact trivial | (intro Q h; refine h ?_; clear h Q) | refine And.intro ?_ ?_ | refine subL_cons ?_ ?_ | refine sub_agg ?_ | exact sub_sl rfl rfl rfl | exact sub_refl_val _ _ | exact row_same rfl rfl rfl )))); done)); (any_goals (first | (apply nodup_mk; rfl) )))
  | ((first | apply call0 (haw) ); (focus (iterate 2 (all_goals (repeat' (first | exact subL_nil ))))))
  | (apply ret_mk [some 0, some 1, some 2, some 3, some 4, some 5, some 6, some 7]; (focus (iterate 2 (all_goals (repeat' (first | exact rows_same rfl rfl rfl rfl | exact os_same rfl rfl rfl rfl | exact trivial | (intro Q h; refine h ?_; clear h Q) | refine And.intro ?_ ?_ | exact sub_sb rfl | exact row_same rfl rfl rfl ))))); (any_goals (apply okIx_mk; rfl)))
  ))
 obtain ⟨hf, hv⟩ := hf
 rw [hf] at hfw
 obtain ⟨r1, _, r3⟩ := run_ok' s ok 0
 by_cases hc : ckS s = 0
 rotate_left
 ·have r1 := r1 hc
  generalize ckS s = c at *
  refine Runs.mk tabOK Tryz.call4 Tryz.func4 rfl Tryz.ntmps4 Tryz.results4 rfl ?_
  (repeat' (first
  | (intro Q h; refine h ?_; clear h Q)
  | (refine bcase_mk (fun hb => ?_) (fun hb => ?_) <;> (try simp only [nS, nT, eq_self, reduceCtorEq] at hb) <;> (try (exfalso; (first | omega ); done)))
  | refine seq_go ?_
  | ((first | apply call_detx [some 0, some 1, some 2, some 3, some 4, some 5, some 6, some 7] (hfw) ); (focus ((iterate 2 (all_goals (repeat' (first | exact rows_same rfl rfl rfl rfl | exact os_same rfl rfl rfl rfl | exact subL_nil | exact trivial | (intro Q h; refine h ?_; clear h Q) | refine And.intro ?_ ?_ | refine subL_cons ?_ ?_ | refine sub_agg ?_ | exact sub_sl rfl rfl rfl | exact sub_refl_val _ _ | exact row_same rfl rfl rfl )))); done)); (any_goals (first | (apply nodup_mk; rfl) )))
  | ((first | apply call_detx [some 0, some 1, some 2, some 3, some 4, some 5, some 6, some 7] (r1) ); (focus ((iterate 2 (all_goals (repeat' (first | exact rows_same rfl rfl rfl rfl | exact os_same rfl rfl rfl rfl | exact subL_nil | exact trivial | (intro Q h; refine h ?_; clear h Q) | refine And.intro ?_ ?_ | refine subL_cons ?_ ?_ | refine sub_agg ?_ | exact sub_sl rfl rfl rfl | exact sub_refl_val _ _ | exact row_same rfl rfl rfl )))); done)); (any_goals (first | (apply nodup_mk; rfl) )))
  | ((first | apply call0 (haw) ); (focus (iterate 2 (all_goals (repeat' (first | exact subL_nil ))))))
  | (apply ret_mk [some 0, some 1, some 2, some 3, some 4, some 5, some 6, some 7]; (focus (iterate 2 (all_goals (repeat' (first | exact rows_same rfl rfl rfl rfl | exact os_same rfl rfl rfl rfl | exact trivial | (intro Q h; refine h ?_; clear h Q) | refine And.intro ?_ ?_ | exact sub_sb rfl | exact row_same rfl rfl rfl ))))); (any_goals (apply okIx_mk; rfl)))
  ))
 have r3 := r3 hc (by omega)
 obtain ⟨v, rfl⟩ := Int.eq_ofNat_of_zero_le hv.1
 obtain ⟨hck, ⟨L1, L2, L3, L4, L5⟩, hk1, _⟩ := ckS_parts hc
 have hvo : v < s.os.length := by omega
 have hcv := (ckS1_all s _ 0 hk1 v (Nat.zero_le _) (by omega)).1
 have hov := (ckO_ok hcv).2
 have hn := ok.hn
 have okt : SOk (mvS s v d none) := ⟨ok.hl, ok.hn, ok.hw⟩
 obtain ⟨q1, _, q3⟩ := run_ok' (mvS s v d none) okt 0
 have hml : (mvS s v d none).os.length = s.os.length := mvO_len ..
 have hck2 := ckS_mv (s := s) (v := v) (d := d) (c := none) hvo hc
 have hL := rnL_mv (s := s) (v := v) (d := d) (c := none) hvo 0
 have hbd := fun x => rnL_bd ok hc (t := 0) (by omega) (x := x)
 have hlt := fun x => rnL_lt ok hc 0 (x := x)
 unfold scB osB osR at q1 q3
 simp only [sgR_mv d hvo, mvO_len] at q1 q3
 generalize rnL (mvS s v d none) 0 = L' at *
 generalize rnL s 0 = L at *
 generalize ckS (mvS s v d none) = c' at *
 have z0 : L.getD (0 + Int.toNat (v : Int)) gp0 = L.getD v gp0 := by congr 1; omega
 have hph : ∀ x : Nat, x = v → IntKind.i64.wrap ((s.os.getD x os0).ph + IntKind.i64.wrap d) = (s.os.getD v os0).ph + d := fun x e => by
  subst e; rw [IntKind.wrap_i64, IntKind.wrap_i64]; omega
 refine Runs.mk tabOK Tryz.call4 Tryz.func4 rfl Tryz.ntmps4 Tryz.results4 rfl ?_
 (repeat' (first
  | (intro Q h; refine h ?_; clear h Q)
  | (refine bcase_mk (fun hb => ?_) (fun hb => ?_) <;> (try simp only [nS, nT, eq_self, reduceCtorEq] at hb) <;> (try (exfalso; (first | omega ); done)))
  | refine seq_go ?_
  | refine And.intro (by first | omega | ((try simp only [wS]); omega) | rfl | decide) ?_
  | ((first | apply call_detx [some 0, some 1, some 2, some 3, some 4, some 5, some 6, some 7] (hfw) ); (focus ((iterate 2 (all_goals (repeat' (first | exact rows_same rfl rfl rfl rfl | exact os_same rfl rfl rfl rfl | exact subL_nil | exact trivial | (intro Q h; refine h ?_; clear h Q) | refine And.intro ?_ ?_ | refine subL_cons ?_ ?_ | refine sub_agg ?_ | exact sub_sl rfl rfl rfl | exact sub_refl_val _ _ | exact row_same rfl rfl rfl )))); done)); (any_goals (first | (apply nodup_mk; rfl) )))
  | ((first | apply call_detx [some 0, some 1, some 2, some 3, some 4, some 5, some 6, some 7] (r3) ); (focus ((iterate 2 (all_goals (repeat' (first | exact rows_same rfl rfl rfl rfl | exact os_same rfl rfl rfl rfl | exact subL_nil | exact trivial | (intro Q h; refine h ?_; clear h Q) | refine And.intro ?_ ?_ | refine subL_cons ?_ ?_ | refine sub_agg ?_ | exact sub_sl rfl rfl rfl | exact sub_refl_val _ _ | exact row_same rfl rfl rfl )))); done)); (any_goals (first | (apply nodup_mk; rfl) )))
  | ((first | apply call0 (haw) ); (focus (iterate 2 (all_goals (repeat' (first | exact subL_nil ))))))
  | (apply ret_mk [some 0, some 1, some 2, some 3, some 4, some 5, some 6, some 7]; (focus (iterate 2 (all_goals (repeat' (first | exact rows_same rfl rfl rfl rfl | exact os_same rfl rfl rfl rfl | exact trivial | (intro Q h; refine h ?_; clear h Q) | refine And.intro ?_ ?_ | exact sub_sb rfl | exact row_same rfl rfl rfl ))))); (any_goals (apply okIx_mk; rfl)))
  ))
 refine loop_inv (σ := Nat) (fun x => x ≤ s.ns.length ∧ ∀ i, i < x → (L.getD i gp0).master ≠ v) (fun x => ⟨[(1, .val (.int .i64 v)), (2, .val (.int .i32 d)), (3, .ptr 8 8 0 0), (7, .sl 9 6 0 s.ns.length none), (53, .sl 9 6 0 s.ns.length none), (54, .val (.int .i64 s.ns.length)), (55, .val (.int .i64 x))], [gB s.l, ndB s.ns, osB s.os s.hd, osR s.os s.hd, iB false s.dn, iB false s.up, blB s.tr, iB false s.st, .var (scV s), .arr true 41 6 s.ns.length (rowF gpC gp0 L)]⟩) (fun x => s.ns.length - x) (0) ?_ ?_ ?_
 ·exact ⟨by omega, fun i hi => by omega⟩
 ·(apply le_mk [some 0, some 1, some 2, some 3, some 4, some 5, some 6, some 7, some 8, some 9]; (focus (iterate 2 (all_goals (repeat' (first | exact rows_same rfl rfl rfl rfl | exact os_same rfl rfl rfl rfl | exact subL_nil | exact trivial | (intro Q h; refine h ?_; clear h Q) | refine And.intro ?_ ?_ | refine subL_cons ?_ ?_ | refine var_mk ?_ | exact sub_ptr rfl rfl | exact sub_sl rfl rfl rfl | exact sub_refl_val _ _ | exact row_same rfl rfl rfl | exact row_ren rfl rfl rfl ))))); (any_goals (apply okIx_mk; rfl)))
 rintro x ⟨hx, hxm⟩
 by_cases hxl : x < s.ns.length
 ·have hz : 0 + Int.toNat (x : Int) = x := by omega
  by_cases hm : (L.getD x gp0).master = v
  ·rw [← hz] at hm
   (repeat' (first
  | (intro Q h; refine h ?_; clear h Q)
  | (refine bcase_mk (fun hb => ?_) (fun hb => ?_) <;> (try simp only [nS, nT, eq_self, reduceCtorEq] at hb) <;> (try (exfalso; (first | omega ); done)))
  | refine seq_go ?_
  | refine And.intro (by first | omega | ((try simp only [wS]); omega) | rfl | decide) ?_
  | ((first | apply call0 (haw) ); (focus (iterate 2 (all_goals (repeat' (first | exact subL_nil ))))))
  | (apply ret_mk [some 0, some 1, some 2, some 3, some 4, some 5, some 6, some 7]; (focus (iterate 2 (all_goals (repeat' (first | exact rows_same rfl rfl rfl rfl | exact os_same rfl rfl rfl rfl | exact trivial | (intro Q h; refine h ?_; clear h Q) | refine And.intro ?_ ?_ | exact sub_sb rfl | exact row_same rfl rfl rfl ))))); (any_goals (apply okIx_mk; rfl)))
  ))
  ·have hm' := hm
   rw [← hz] at hm
   have hm2 : ∀ i, i < x + 1 → (L.getD i gp0).master ≠ v := fun i hi => by
    by_cases e : i = x
    ·rw [e]; exact hm'
    ·exact hxm i (by omega)
   (repeat' (first
  | (intro Q h; refine h ?_; clear h Q)
  | (refine bcase_mk (fun hb => ?_) (fun hb => ?_) <;> (try simp only [nS, nT, eq_self, reduceCtorEq] at hb) <;> (try (exfalso; (first | omega ); done)))
  | refine seq_go ?_
  | refine And.intro (by first | omega | ((try simp only [wS]); omega) | rfl | decide) ?_
  | (apply next_sub (Subtype.mk (x + 1) ⟨by omega, hm2⟩); (focus (apply le_mk [some 0, some 1, some 2, some 3, some 4, some 5, some 6, some 7, some 8, some 9]; (focus (iterate 2 (all_goals (repeat' (first | exact rows_same rfl rfl rfl rfl | exact os_same rfl rfl rfl rfl | exact subL_nil | exact trivial | (intro Q h; refine h ?_; clear h Q) | refine And.intro ?_ ?_ | refine subL_cons ?_ ?_ | refine var_mk ?_ | exact sub_ptr rfl rfl | exact sub_sl rfl rfl rfl | exact sub_refl_val _ _ | exact row_same rfl rfl rfl | ((first | refine sub_int ?_ ); first | with_reducible rfl | omega | ((try simp only [wS]); omega) | rfl) ))))); (any_goals (apply okIx_mk; rfl)))); (all_goals (try (first | (simp only; omega)))))
  ))
 obtain rfl : x = s.ns.length := by omega
 have hL0 : 0 ≤ (L.getD v gp0).master := by rw [← z0]; omega
 have hL := hL hxm hL0
 have hn24 : s.ns.length ≤ 24 := by obtain ⟨_, hn, _, _⟩ := sc_parts ok hc; omega
 rcases hck2 with hc2 | hc2
 rotate_left
 ·have q1 := q1 (by omega)
  rw [hc2] at q1
  (repeat' (first
  | (intro Q h; refine h ?_; clear h Q)
  | (refine bcase_mk (fun hb => ?_) (fun hb => ?_) <;> (try simp only [nS, nT, eq_self, reduceCtorEq] at hb) <;> (try (exfalso; (first | omega ); done)))
  | refine seq_go ?_
  | refine And.intro (by first | omega | ((try simp only [wS]); omega) | rfl | decide) ?_
  | ((first | apply call_detx [some 0, some 1, some 12, some 3, some 4, some 5, some 6, some 7] (q1) ); (focus ((iterate 2 (all_goals (repeat' (first | exact rows_same rfl rfl rfl rfl | (exact os_mv (by omega) rfl rfl (by omega) hvo (sub_int (hph _ (by omega)))) | exact subL_nil | exact trivial | (intro Q h; refine h ?_; clear h Q) | refine And.intro ?_ ?_ | refine subL_cons ?_ ?_ | refine sub_agg ?_ | exact sub_sl rfl rfl rfl | exact sub_refl_val _ _ | exact row_same rfl rfl rfl | ((first | refine sub_sl rfl rfl ?_ ); first | with_reducible rfl | omega | ((try simp only [wS]); omega) | rfl) )))); done)); (any_goals (first | (apply nodup_mk; rfl) )))
  | ((first | apply call0 (haw) ); (focus (iterate 2 (all_goals (repeat' (first | exact subL_nil ))))))
  | (apply ret_mk [some 0, some 1, some 2, some 3, some 4, some 5, some 6, some 7]; (focus (iterate 2 (all_goals (repeat' (first | exact rows_same rfl rfl rfl rfl | exact os_same rfl rfl rfl rfl | exact trivial | (intro Q h; refine h ?_; clear h Q) | refine And.intro ?_ ?_ | exact sub_sb rfl | exact row_same rfl rfl rfl ))))); (any_goals (apply okIx_mk; rfl)))
  ))
 have q3 := q3 hc2 (by omega)
 (repeat' (first
  | (intro Q h; refine h ?_; clear h Q)
  | (refine bcase_mk (fun hb => ?_) (fun hb => ?_) <;> (try simp only [nS, nT, eq_self, reduceCtorEq] at hb) <;> (try (exfalso; (first | omega ); done)))
  | refine seq_go ?_
  | refine And.intro (by first | omega | ((try simp only [wS]); omega) | rfl | decide) ?_
  | ((first | apply call_detx [some 0, some 1, some 12, some 3, some 4, some 5, some 6, some 7] (q3) ); (focus ((iterate 2 (all_goals (repeat' (first | exact rows_same rfl rfl rfl rfl | (exact os_mv (by omega) rfl rfl (by omega) hvo (sub_int (hph _ (by omega)))) | exact subL_nil | exact trivial | (intro Q h; refine h ?_; clear h Q) | refine And.intro ?_ ?_ | refine subL_cons ?_ ?_ | refine sub_agg ?_ | exact sub_sl rfl rfl rfl | exact sub_refl_val _ _ | exact row_same rfl rfl rfl | ((first | refine sub_sl rfl rfl ?_ ); first | with_reducible rfl | omega | ((try simp only [wS]); omega) | rfl) )))); done)); (any_goals (first | (apply nodup_mk; rfl) )))
  ))
 refine loop_inv (σ := Nat) (fun x => x ≤ s.ns.length) (fun x => ⟨[(1, .val (.int .i64 v)), (2, .val (.int .i32 d)), (12, .sl 9 6 0 s.ns.length none), (99, .sl 8 6 0 s.ns.length none), (100, .val (.int .i64 s.ns.length)), (101, .val (.int .i64 x))], [gB s.l, ndB s.ns, osB s.os s.hd, osR s.os s.hd, iB false s.dn, iB false s.up, blB s.tr, iB false s.st, .arr true 41 6 s.ns.length (rowF gpC gp0 L), .arr true 41 6 s.ns.length (rowF gpC gp0 L')]⟩) (fun x => s.ns.length - x) (0) ?_ ?_ ?_
 ·omega
 ·(apply le_mk [some 0, some 1, some 2, some 3, some 4, some 5, some 6, some 7, some 9, some 13]; (focus (iterate 2 (all_goals (repeat' (first | exact rows_same rfl rfl rfl rfl | exact os_same rfl rfl rfl rfl | exact trivial | (intro Q h; refine h ?_; clear h Q) | refine And.intro ?_ ?_ | exact sub_sl rfl rfl rfl | exact sub_refl_val _ _ | exact row_same rfl rfl rfl | exact row_ren rfl rfl rfl ))))); (any_goals (apply okIx_mk; rfl)))
 rintro x hx
 by_cases hxl : x < s.ns.length
 rotate_left
 ·obtain rfl : x = s.ns.length := by omega
  (repeat' (first
  | (intro Q h; refine h ?_; clear h Q)
  | (refine bcase_mk (fun hb => ?_) (fun hb => ?_) <;> (try simp only [nS, nT, eq_self, reduceCtorEq] at hb) <;> (try (exfalso; (first | omega ); done)))
  | ((first | apply call0 (haw) ); (focus (iterate 2 (all_goals (repeat' (first | exact subL_nil ))))))
  | (apply ret_mk [some 0, some 1, some 2, some 3, some 4, some 5, some 6, some 7]; (focus (iterate 2 (all_goals (repeat' (first | exact rows_same rfl rfl rfl rfl | exact os_same rfl rfl rfl rfl | exact trivial | (intro Q h; refine h ?_; clear h Q) | refine And.intro ?_ ?_ | exact sub_sb rfl | exact row_same rfl rfl rfl ))))); (any_goals (apply okIx_mk; rfl)))
  ))
 have hz : 0 + Int.toNat (x : Int) = x := by omega
 have hLx := hL x hxl
 obtain ⟨⟨m1, m2⟩, ⟨a1, a2⟩⟩ := hbd x hxl
 obtain ⟨k1, k2⟩ := hlt x hxl
 by_cases hxv : x = v
 ·subst hxv
  rw [if_pos rfl] at hLx
  rw [decide_eq_true hL0] at k1
  have wm : IntKind.i64.wrap ((L.getD (0 + Int.toNat (x : Int)) gp0).measured + IntKind.i64.wrap d) = (L.getD x gp0).measured + d := by rw [hz, IntKind.wrap_i64, IntKind.wrap_i64]; omega
  have wa : IntKind.i64.wrap ((L.getD (0 + Int.toNat (x : Int)) gp0).actual + IntKind.i64.wrap d) = (L.getD x gp0).actual + d := by rw [hz, IntKind.wrap_i64, IntKind.wrap_i64]; omega
  have hh : (L.getD (0 + Int.toNat (x : Int)) gp0).known = true := by rw [hz]; exact k1
  (repeat' (first
  | (intro Q h; refine h ?_; clear h Q)
  | (refine bcase_mk (fun hb => ?_) (fun hb => ?_) <;> (try simp only [nS, nT, eq_self, reduceCtorEq] at hb) <;> (try (exfalso; (first | omega | (rw [hh] at hb; cases hb)); done)))
  | refine draw_mk (by decide +kernel) ?_
  | refine seq_go ?_
  | refine And.intro (by first | omega | ((try simp only [wS]); omega) | rfl | decide) ?_
  | (apply next_sub (Subtype.mk (x + 1) _); (focus (apply le_mk [some 0, some 1, some 2, some 3, some 4, some 5, some 6, some 7, some 8, some 9]; (focus (iterate 2 (all_goals (repeat' (first | exact rows_same rfl rfl rfl rfl | exact os_same rfl rfl rfl rfl | exact trivial | (intro Q h; refine h ?_; clear h Q) | refine And.intro ?_ ?_ | exact sub_sl rfl rfl rfl | exact sub_refl_val _ _ | exact row_same rfl rfl rfl | ((first | refine sub_int ?_ ); first | with_reducible rfl | omega | ((try simp only [wS]); omega) | rfl) ))))); (any_goals (apply okIx_mk; rfl)))); (all_goals (try (first | omega | (simp only; omega)))))
  ))
  all_goals (exfalso; rw [wm, wa, hz, hLx] at hb; simp only [mvG, k1, if_true, beq_self_eq_true, Bool.and_self, reduceCtorEq] at hb)
 ·rw [if_neg hxv] at hLx
  (repeat' (first
  | (intro Q h; refine h ?_; clear h Q)
  | (refine bcase_mk (fun hb => ?_) (fun hb => ?_) <;> (try simp only [nS, nT, eq_self, reduceCtorEq] at hb) <;> (try (exfalso; (first | omega ); done)))
  | refine draw_mk (by decide +kernel) ?_
  | refine seq_go ?_
  | refine And.intro (by first | omega | ((try simp only [wS]); omega) | rfl | decide) ?_
  | (apply next_sub (Subtype.mk (x + 1) _); (focus (apply le_mk [some 0, some 1, some 2, some 3, some 4, some 5, some 6, some 7, some 8, some 9]; (focus (iterate 2 (all_goals (repeat' (first | exact rows_same rfl rfl rfl rfl | exact os_same rfl rfl rfl rfl | exact trivial | (intro Q h; refine h ?_; clear h Q) | refine And.intro ?_ ?_ | exact sub_sl rfl rfl rfl | exact sub_refl_val _ _ | exact row_same rfl rfl rfl | ((first | refine sub_int ?_ ); first | with_reducible rfl | omega | ((try simp only [wS]); omega) | rfl) ))))); (any_goals (apply okIx_mk; rfl)))); (all_goals (try (first | omega | (simp only; omega)))))
  ))
  all_goals (exfalso; rw [hz, hLx] at hb; simp only [beq_self_eq_true, Bool.and_self, reduceCtorEq] at hb)
end Go.Vx.L58

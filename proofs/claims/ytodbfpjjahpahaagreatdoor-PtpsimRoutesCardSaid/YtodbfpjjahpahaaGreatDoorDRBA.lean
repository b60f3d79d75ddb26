/- Lemmas of a small executor for the model, and contracts of functions, used for the law that this claim proves. No condition. -/
import Derived.Test.YtodbfpjjahpahaaGreatDoorDW3
import Derived.Test.YtodbfpjjahpahaaGreatDoorDRTA
import Derived.Test.YtodbfpjjahpahaaGreatDoorDPA
import Derived.Test.YtodbfpjjahpahaaGreatDoorDRTB
import Derived.Test.YtodbfpjjahpahaaGreatDoorDP16
set_option linter.unusedSimpArgs false
set_option linter.unusedVariables false
set_option maxRecDepth 100000
namespace Go.Vx.L58
open Go Go.Proofs
set_option maxHeartbeats 4000000 in
theorem segment_ok (os : List Osc) (hd : Nat → Value) (i : Nat) (hi : i < os.length) (hs16 : (os.getD i os0).sg.length ≤ 16) (k : Nat) (hk : k < (os.getD i os0).sg.length) :
  Runs Tryz.prog 69 [oA os hd i, .val (.int .i64 k)] [osR os hd] (Det (.val (.int .i64 (ckO1 (os.getD i os0).sg k))) [osR os hd]) := by
 have hz : Int.toNat (k : Int) = k := Int.toNat_natCast k
 have hw : (IntKind.i64.wrap ((k : Int) - 1)).toNat = k - 1 := by rw [IntKind.wrap_i64]; omega
 have hcn : ckO1 (os.getD i os0).sg k = if ((os.getD i os0).sg.getD (Int.toNat (k : Int)) sg0).a < 0 ∨ 1125899906842624 < ((os.getD i os0).sg.getD (Int.toNat (k : Int)) sg0).a ∨ ((os.getD i os0).sg.getD (Int.toNat (k : Int)) sg0).p < -500000 ∨ 500000 < ((os.getD i os0).sg.getD (Int.toNat (k : Int)) sg0).p then 3
   else if k = 0 ∧ ((os.getD i os0).sg.getD (Int.toNat (k : Int)) sg0).a ≠ 0 then 7 else if 0 < k ∧ ((os.getD i os0).sg.getD (Int.toNat (k : Int)) sg0).a ≤ ((os.getD i os0).sg.getD (IntKind.i64.wrap ((k : Int) - 1)).toNat sg0).a then 12 else 0 := by
  rw [hz, hw]; rfl
 generalize ckO1 (os.getD i os0).sg k = c at *
 refine Runs.mk tabOK Tryz.call69 Tryz.func69 rfl Tryz.ntmps69 Tryz.results69 rfl ?_
 (repeat' (first
  | (intro Q h; refine h ?_; clear h Q)
  | (refine bcase_mk (fun hb => ?_) (fun hb => ?_) <;> (try simp only [nS, nT, eq_self, reduceCtorEq] at hb) <;> (try (exfalso; omega)))
  | refine draw_mk (by decide +kernel) ?_
  | refine seq_go ?_
  | refine And.intro (by first | omega | ((try simp only [wS]); omega) | rfl | decide) ?_
  | (apply ret_mk [some 0]; exact AS; any_goals (apply okIx_mk; rfl))
  ))
 all_goals first
  | (rw [hcn, if_pos (by omega)])
  | (rw [hcn, if_neg (by omega), if_pos (by omega)])
  | (rw [hcn, if_neg (by omega), if_neg (by omega), if_pos (by omega)])
  | (rw [hcn, if_neg (by omega), if_neg (by omega), if_neg (by omega)])
  | fail
set_option maxHeartbeats 4000000 in
theorem rocheck_ok (os : List Osc) (hd : Nat → Value) (i : Nat) (hi : i < os.length) :
  Runs Tryz.prog 29 [oA os hd i] [osR os hd] (Det (.val (.int .i64 (ckO (os.getD i os0)))) [osR os hd]) := by
 by_cases c1 : (os.getD i os0).sg.length = 0
 ·rw [show ckO (os.getD i os0) = 14 by unfold ckO; rw [if_pos c1]]
  refine Runs.mk tabOK Tryz.call29 Tryz.func29 rfl Tryz.ntmps29 Tryz.results29 rfl ?_
  (repeat' (first
  | (intro Q h; refine h ?_; clear h Q)
  | (refine bcase_mk (fun hb => ?_) (fun hb => ?_) <;> (try simp only [nS, nT, eq_self, reduceCtorEq] at hb) <;> (try (exfalso; omega)))
  | refine seq_go ?_
  | (apply ret_mk [some 0]; exact AS; any_goals (apply okIx_mk; rfl))
  ))
 by_cases c2 : 16 < (os.getD i os0).sg.length
 ·rw [show ckO (os.getD i os0) = 6 by unfold ckO; rw [if_neg c1, if_pos c2]]
  refine Runs.mk tabOK Tryz.call29 Tryz.func29 rfl Tryz.ntmps29 Tryz.results29 rfl ?_
  (repeat' (first
  | (intro Q h; refine h ?_; clear h Q)
  | (refine bcase_mk (fun hb => ?_) (fun hb => ?_) <;> (try simp only [nS, nT, eq_self, reduceCtorEq] at hb) <;> (try (exfalso; omega)))
  | refine seq_go ?_
  | (apply ret_mk [some 0]; exact AS; any_goals (apply okIx_mk; rfl))
  ))
 by_cases c3 : (os.getD i os0).ph < -1125899906842624 ∨ 1125899906842624 < (os.getD i os0).ph
 ·rw [show ckO (os.getD i os0) = 3 by unfold ckO; rw [if_neg c1, if_neg c2, if_pos c3]]
  refine Runs.mk tabOK Tryz.call29 Tryz.func29 rfl Tryz.ntmps29 Tryz.results29 rfl ?_
  (repeat' (first
  | (intro Q h; refine h ?_; clear h Q)
  | (refine bcase_mk (fun hb => ?_) (fun hb => ?_) <;> (try simp only [nS, nT, eq_self, reduceCtorEq] at hb) <;> (try (exfalso; omega)))
  | refine seq_go ?_
  | (apply ret_mk [some 0]; exact AS; any_goals (apply okIx_mk; rfl))
  ))
 rw [show ckO (os.getD i os0) = ckO2 (os.getD i os0).sg (os.getD i os0).sg.length 0 by unfold ckO; rw [if_neg c1, if_neg c2, if_neg c3]]
 have hsg := segment_ok os hd i hi (by omega)
 refine Runs.mk tabOK Tryz.call29 Tryz.func29 rfl Tryz.ntmps29 Tryz.results29 rfl ?_
 (repeat' (first
  | (intro Q h; refine h ?_; clear h Q)
  | (refine bcase_mk (fun hb => ?_) (fun hb => ?_) <;> (try simp only [nS, nT, eq_self, reduceCtorEq] at hb) <;> (try (exfalso; omega)))
  | refine seq_go ?_
  ))
 refine loop_inv (σ := Nat) (fun x => x ≤ (os.getD i os0).sg.length ∧ ckO2 (os.getD i os0).sg ((os.getD i os0).sg.length - x) x = ckO2 (os.getD i os0).sg (os.getD i os0).sg.length 0) (fun x => ⟨[(1, .ptr 1 2 0 0), (3, .val (.int .i64 x))], [osR os hd, .var [.val (.int .i64 (os.getD i os0).ph), .rsl 0 i 2 (os.getD i os0).sg.length (hd i)]]⟩) (fun x => (os.getD i os0).sg.length - x) (0) ?_ ?_ ?_
 ·exact ⟨by omega, rfl⟩
 ·(apply le_mk [some 0, some 1]; exact AS; any_goals (apply okIx_mk; rfl))
 rintro k ⟨hk, hke⟩
 by_cases hkl : k < (os.getD i os0).sg.length
 ·rw [show (os.getD i os0).sg.length - k = ((os.getD i os0).sg.length - (k + 1)) + 1 by omega, ckO2] at hke
  have hsg := hsg k hkl
  generalize ckO1 (os.getD i os0).sg k = c at *
  by_cases hc : c = 0
  ·rw [if_neg (by omega)] at hke
   subst hc
   (repeat' (first
  | (intro Q h; refine h ?_; clear h Q)
  | (refine bcase_mk (fun hb => ?_) (fun hb => ?_) <;> (try simp only [nS, nT, eq_self, reduceCtorEq] at hb) <;> (try (exfalso; omega)))
  | refine seq_go ?_
  | ((first | apply call_detx [some 0] (hsg) ); exact AS; any_goals (apply nodup_mk; rfl))
  | (apply next_sub (Subtype.mk (k + 1) ⟨by omega, hke⟩); (focus (apply le_mk [some 0, some 1]; exact AS; any_goals (apply okIx_mk; rfl))); (all_goals (try (first | (simp only; omega)))))
  ))
  ·rw [if_pos hc] at hke
   rw [← hke]
   (repeat' (first
  | (intro Q h; refine h ?_; clear h Q)
  | (refine bcase_mk (fun hb => ?_) (fun hb => ?_) <;> (try simp only [nS, nT, eq_self, reduceCtorEq] at hb) <;> (try (exfalso; omega)))
  | refine seq_go ?_
  | ((first | apply call_detx [some 0] (hsg) ); exact AS; any_goals (apply nodup_mk; rfl))
  | (apply ret_mk [some 0]; exact AS; any_goals (apply okIx_mk; rfl))
  ))
 ·obtain rfl : k = (os.getD i os0).sg.length := by omega
  rw [Nat.sub_self, ckO2] at hke
  rw [← hke]
  (repeat' (first
  | (intro Q h; refine h ?_; clear h Q)
  | (refine bcase_mk (fun hb => ?_) (fun hb => ?_) <;> (try simp only [nS, nT, eq_self, reduceCtorEq] at hb) <;> (try (exfalso; omega)))
  | refine seq_go ?_
  | (apply ret_mk [some 0]; exact AS; any_goals (apply okIx_mk; rfl))
  ))
set_option maxHeartbeats 4000000 in
theorem rscheck_ok (s : Scn) (ok : SOk s) : Runs Tryz.prog 13 [scA s] (scB s) (Det (.val (.int .i64 (ckS s))) (scB s)) := by
 have hmx : maxLen = 9223372036854775807 := by decide
 have hck := r42check_ok s.n s.l s.c0 ok.hl s.ns s.c1 ok.hn
 by_cases hc : ckE s.n s.l s.ns = 0
 rotate_left
 ·have e : ckS s = ckE s.n s.l s.ns := by unfold ckS; rw [if_pos hc]
  rw [e]
  generalize ckE s.n s.l s.ns = c at *
  refine Runs.mk tabOK Tryz.call13 Tryz.func13 rfl Tryz.ntmps13 Tryz.results13 rfl ?_
  (repeat' (first
  | (intro Q h; refine h ?_; clear h Q)
  | (refine bcase_mk (fun hb => ?_) (fun hb => ?_) <;> (try simp only [nS, nT, eq_self, reduceCtorEq] at hb) <;> (try (exfalso; omega)))
  | refine seq_go ?_
  | ((first | apply call_detx [some 0, some 1] (hck) ); exact AS; any_goals (apply nodup_mk; rfl))
  | (apply ret_mk [some 0, some 1, some 2, some 3, some 4, some 5, some 6, some 7]; exact AS; any_goals (apply okIx_mk; rfl))
  ))
 rw [hc] at hck
 by_cases hL : s.os.length = s.ns.length ∧ s.tr.length = s.ns.length ∧ s.st.length = s.ns.length ∧ s.dn.length = s.l.length ∧ s.up.length = s.l.length
 rotate_left
 ·have e : ckS s = 7 := by unfold ckS; rw [if_neg (by omega), if_pos hL]
  rw [e]
  refine Runs.mk tabOK Tryz.call13 Tryz.func13 rfl Tryz.ntmps13 Tryz.results13 rfl ?_
  (repeat' (first
  | (intro Q h; refine h ?_; clear h Q)
  | (refine bcase_mk (fun hb => ?_) (fun hb => ?_) <;> (try simp only [nS, nT, eq_self, reduceCtorEq] at hb) <;> (try (exfalso; omega)))
  | refine draw_mk (by decide +kernel) ?_
  | refine seq_go ?_
  | ((first | apply call_detx [some 0, some 1] (hck) ); exact AS; any_goals (apply nodup_mk; rfl))
  | (apply ret_mk [some 0, some 1, some 2, some 3, some 4, some 5, some 6, some 7]; exact AS; any_goals (apply okIx_mk; rfl))
  ))
 obtain ⟨L1, L2, L3, L4, L5⟩ := hL
 have e : ckS s = if ckS1 s s.os.length 0 ≠ 0 then ckS1 s s.os.length 0 else ckS2 s s.l.length 0 := by unfold ckS; rw [if_neg (by omega), if_neg (by omega)]
 rw [e]
 clear e
 have hl := ok.hl
 have hn := ok.hn
 refine Runs.mk tabOK Tryz.call13 Tryz.func13 rfl Tryz.ntmps13 Tryz.results13 rfl ?_
 (repeat' (first
  | (intro Q h; refine h ?_; clear h Q)
  | (refine bcase_mk (fun hb => ?_) (fun hb => ?_) <;> (try simp only [nS, nT, eq_self, reduceCtorEq] at hb) <;> (try (exfalso; omega)))
  | refine draw_mk (by decide +kernel) ?_
  | refine seq_go ?_
  | ((first | apply call_detx [some 0, some 1] (hck) ); exact AS; any_goals (apply nodup_mk; rfl))
  ))
 refine loop_inv (σ := Nat) (fun x => x ≤ s.os.length ∧ ckS1 s (s.os.length - x) x = ckS1 s s.os.length 0) (fun x => ⟨[(1, .ptr 8 8 0 0), (4, .val (.int .i64 s.ns.length)), (5, .val (.int .i64 s.l.length)), (6, .val (.int .i64 x))], [gB s.l, ndB s.ns, osB s.os s.hd, osR s.os s.hd, iB false s.dn, iB false s.up, blB s.tr, iB false s.st, .var (scV s)]⟩) (fun x => s.os.length - x) (0) ?_ ?_ ?_
 ·exact ⟨by omega, rfl⟩
 ·(apply le_mk [some 0, some 1, some 2, some 3, some 4, some 5, some 6, some 7, some 8]; exact AS; any_goals (apply okIx_mk; rfl))
 rintro k ⟨hk, hke⟩
 by_cases hkl : k < s.os.length
 ·have hz : 0 + Int.toNat (k : Int) = k := by omega
  rw [show s.os.length - k = (s.os.length - (k + 1)) + 1 by omega, ckS1] at hke
  have ho := rocheck_ok s.os s.hd (0 + Int.toNat (k : Int)) (by omega)
  rw [← hz] at hke
  by_cases h1 : ckO (s.os.getD (0 + Int.toNat (k : Int)) os0) = 0
  ·rw [h1] at ho
   rw [if_neg (by omega)] at hke
   have hst := fits_ok (s.st.getD (0 + Int.toNat (k : Int)) 0)
   by_cases h2 : dly (s.st.getD (0 + Int.toNat (k : Int)) 0) = true
   ·rw [if_neg (by rw [h2]; simp)] at hke
    unfold dly at h2
    rw [h2] at hst
    rw [hz] at hke
    (repeat' (first
  | (intro Q h; refine h ?_; clear h Q)
  | (refine bcase_mk (fun hb => ?_) (fun hb => ?_) <;> (try simp only [nS, nT, eq_self, reduceCtorEq] at hb) <;> (try (exfalso; omega)))
  | refine seq_go ?_
  | refine And.intro (by first | omega | ((try simp only [wS]); omega) | rfl | decide) ?_
  | ((first | apply call_detx [some 3] (ho) ); exact AS; any_goals (apply nodup_mk; rfl))
  | ((first | apply call0 (hst) ); exact AS)
  | (apply next_sub (Subtype.mk (k + 1) ⟨by omega, hke⟩); (focus (apply le_mk [some 0, some 1, some 2, some 3, some 4, some 5, some 6, some 7, some 8]; exact AS; any_goals (apply okIx_mk; rfl))); (all_goals (try (first | (simp only; omega)))))
  ))
   ·rw [if_pos (by simpa using h2)] at hke
    have h2 : dly (s.st.getD (0 + Int.toNat (k : Int)) 0) = false := by simpa using h2
    unfold dly at h2
    rw [h2] at hst
    rw [← hke]
    (repeat' (first
  | (intro Q h; refine h ?_; clear h Q)
  | (refine bcase_mk (fun hb => ?_) (fun hb => ?_) <;> (try simp only [nS, nT, eq_self, reduceCtorEq] at hb) <;> (try (exfalso; omega)))
  | refine seq_go ?_
  | refine And.intro (by first | omega | ((try simp only [wS]); omega) | rfl | decide) ?_
  | ((first | apply call_detx [some 3] (ho) ); exact AS; any_goals (apply nodup_mk; rfl))
  | ((first | apply call0 (hst) ); exact AS)
  | (apply ret_mk [some 0, some 1, some 2, some 3, some 4, some 5, some 6, some 7]; exact AS; any_goals (apply okIx_mk; rfl))
  ))
  ·rw [if_pos h1] at hke
   rw [← hke, if_pos h1]
   generalize ckO (s.os.getD (0 + Int.toNat (k : Int)) os0) = c at *
   (repeat' (first
  | (intro Q h; refine h ?_; clear h Q)
  | (refine bcase_mk (fun hb => ?_) (fun hb => ?_) <;> (try simp only [nS, nT, eq_self, reduceCtorEq] at hb) <;> (try (exfalso; omega)))
  | refine seq_go ?_
  | refine And.intro (by first | omega | ((try simp only [wS]); omega) | rfl | decide) ?_
  | ((first | apply call_detx [some 3] (ho) ); exact AS; any_goals (apply nodup_mk; rfl))
  | (apply ret_mk [some 0, some 1, some 2, some 3, some 4, some 5, some 6, some 7]; exact AS; any_goals (apply okIx_mk; rfl))
  ))
 ·obtain rfl : k = s.os.length := by omega
  rw [Nat.sub_self, ckS1] at hke
  rw [← hke, if_neg (by omega)]
  (repeat' (first
  | (intro Q h; refine h ?_; clear h Q)
  | (refine bcase_mk (fun hb => ?_) (fun hb => ?_) <;> (try simp only [nS, nT, eq_self, reduceCtorEq] at hb) <;> (try (exfalso; omega)))
  | refine seq_go ?_
  ))
  refine loop_inv (σ := Nat) (fun x => x ≤ s.l.length ∧ ckS2 s (s.l.length - x) x = ckS2 s s.l.length 0) (fun x => ⟨[(1, .ptr 8 8 0 0), (5, .val (.int .i64 s.l.length)), (8, .val (.int .i64 x))], [gB s.l, ndB s.ns, osB s.os s.hd, osR s.os s.hd, iB false s.dn, iB false s.up, blB s.tr, iB false s.st, .var (scV s)]⟩) (fun x => s.l.length - x) (0) ?_ ?_ ?_
  ·exact ⟨by omega, rfl⟩
  ·(apply le_mk [some 0, some 1, some 2, some 3, some 4, some 5, some 6, some 7, some 8]; exact AS; any_goals (apply okIx_mk; rfl))
  rintro k ⟨hk, hke⟩
  by_cases hkl : k < s.l.length
  ·have hz : 0 + Int.toNat (k : Int) = k := by omega
   rw [show s.l.length - k = (s.l.length - (k + 1)) + 1 by omega, ckS2] at hke
   have hd := fits_ok (s.dn.getD (0 + Int.toNat (k : Int)) 0)
   have hu := fits_ok (s.up.getD (0 + Int.toNat (k : Int)) 0)
   rw [← hz] at hke
   by_cases h1 : dly (s.dn.getD (0 + Int.toNat (k : Int)) 0) = true
   ·have h1' := h1
    unfold dly at h1'
    rw [h1'] at hd
    by_cases h2 : dly (s.up.getD (0 + Int.toNat (k : Int)) 0) = true
    ·rw [if_neg (by rw [h1, h2]; simp), hz] at hke
     unfold dly at h2
     rw [h2] at hu
     (repeat' (first
  | (intro Q h; refine h ?_; clear h Q)
  | (refine bcase_mk (fun hb => ?_) (fun hb => ?_) <;> (try simp only [nS, nT, eq_self, reduceCtorEq] at hb) <;> (try (exfalso; omega)))
  | refine seq_go ?_
  | refine And.intro (by first | omega | ((try simp only [wS]); omega) | rfl | decide) ?_
  | ((first | apply call0 (hd) ); exact AS)
  | ((first | apply call0 (hu) ); exact AS)
  | (apply next_sub (Subtype.mk (k + 1) ⟨by omega, hke⟩); (focus (apply le_mk [some 0, some 1, some 2, some 3, some 4, some 5, some 6, some 7, some 8]; exact AS; any_goals (apply okIx_mk; rfl))); (all_goals (try (first | (simp only; omega)))))
  ))
    ·have h2 : dly (s.up.getD (0 + Int.toNat (k : Int)) 0) = false := by simpa using h2
     rw [if_pos (.inr h2)] at hke
     unfold dly at h2
     rw [h2] at hu
     rw [← hke]
     (repeat' (first
  | (intro Q h; refine h ?_; clear h Q)
  | (refine bcase_mk (fun hb => ?_) (fun hb => ?_) <;> (try simp only [nS, nT, eq_self, reduceCtorEq] at hb) <;> (try (exfalso; omega)))
  | refine seq_go ?_
  | refine And.intro (by first | omega | ((try simp only [wS]); omega) | rfl | decide) ?_
  | ((first | apply call0 (hd) ); exact AS)
  | ((first | apply call0 (hu) ); exact AS)
  | (apply ret_mk [some 0, some 1, some 2, some 3, some 4, some 5, some 6, some 7]; exact AS; any_goals (apply okIx_mk; rfl))
  ))
   ·have h1 : dly (s.dn.getD (0 + Int.toNat (k : Int)) 0) = false := by simpa using h1
    rw [if_pos (.inl h1)] at hke
    unfold dly at h1
    rw [h1] at hd
    rw [← hke]
    (repeat' (first
  | (intro Q h; refine h ?_; clear h Q)
  | (refine bcase_mk (fun hb => ?_) (fun hb => ?_) <;> (try simp only [nS, nT, eq_self, reduceCtorEq] at hb) <;> (try (exfalso; omega)))
  | refine seq_go ?_
  | refine And.intro (by first | omega | ((try simp only [wS]); omega) | rfl | decide) ?_
  | ((first | apply call0 (hd) ); exact AS)
  | (apply ret_mk [some 0, some 1, some 2, some 3, some 4, some 5, some 6, some 7]; exact AS; any_goals (apply okIx_mk; rfl))
  ))
  ·obtain rfl : k = s.l.length := by omega
   rw [Nat.sub_self, ckS2] at hke
   rw [← hke]
   (repeat' (first
  | (intro Q h; refine h ?_; clear h Q)
  | (refine bcase_mk (fun hb => ?_) (fun hb => ?_) <;> (try simp only [nS, nT, eq_self, reduceCtorEq] at hb) <;> (try (exfalso; omega)))
  | refine seq_go ?_
  | (apply ret_mk [some 0, some 1, some 2, some 3, some 4, some 5, some 6, some 7]; exact AS; any_goals (apply okIx_mk; rfl))
  ))
end Go.Vx.L58
set_option maxRecDepth 100000
namespace Go.Vx.L58
open Go Go.Proofs
theorem rcodes_ok {ns : List Nd} {l : List Ed} {M : Mem} (hN : NOK ns l) (hl : l.length ≤ maxLen) (hn : ns.length ≤ maxLen) (hM : MOK ns l M) (cap cap' capm : Option Nat) (rd : Int) (hrr : 0 ≤ rd ∧ rd ≤ 1000) (x : Nat) (hx : x < ns.length) :
  Runs Tryz.prog 54 [aN ns.length l cap ns cap', aBl rd (mlA M ns.length) capm 2, .val (.int .i64 x)] [gB l, ndB ns, meB false (mlA M ns.length)]
   (Det (.tup [.sl 3 1 0 8 none, .val (.int .i64 0)]) [gB l, ndB ns, meB false (mlA M ns.length), .arr true 3 1 8 (intF (codL (owD (ns.getD x nd0)) (hrd M x)))]) := by
 obtain ⟨hc, hn24, hcl⟩ := hN.parts
 have hml := mlA_len M ns.length
 have hhe := rheard_ok rd (mlA M ns.length) capm (by omega) x
 rw [hdL_hrd M hx] at hhe
 have how := rown_ok ns.length l cap ns cap' x hx
 have hlh : (hrd M x).length = 8 := hrd_len M x
 have hde := rdecide_ok (owD (ns.getD x nd0)) (hrd M x) none (by omega) (hM.wf x) (hcl x hx).2.2
 have hclen := codP_len (owD (ns.getD x nd0)) (hrd M x) (hrd M x).length
 rw [show codP (owD (ns.getD x nd0)) (hrd M x) (hrd M x).length = codL (owD (ns.getD x nd0)) (hrd M x) from rfl] at hclen
 have hre := ready_ok hN hl hn hM cap cap' capm rd (by omega)
 rw [hlh] at hde hclen
 generalize codL (owD (ns.getD x nd0)) (hrd M x) = C at *
 generalize mlA M ns.length = ms at *
 refine Runs.mk tabOK Tryz.call54 Tryz.func54 rfl Tryz.ntmps54 Tryz.results54 rfl ?_
 (repeat' (first
  | (intro Q h; refine h ?_; clear h Q)
  | (refine bcase_mk (fun hb => ?_) (fun hb => ?_) <;> (try simp only [nS, nT, eq_self, reduceCtorEq] at hb) <;> (try (exfalso; omega)))
  | refine draw_mk (by decide +kernel) ?_
  | refine seq_go ?_
  | ((first | apply call_detx [some 0, some 1, some 2] (hre) ); exact AS; any_goals (apply nodup_mk; rfl))
  | ((first | apply calld_detx [some 2] (hhe)); exact AS; (any_goals (first | (apply nodup_mk2; rfl) )))
  | ((first | apply calld_detx [some 0, some 1] (how)); exact AS; (any_goals (first | (apply nodup_mk2; rfl) )))
  | ((first | apply calld_detx [some _] (hde)); exact AS; (any_goals (first | (apply nodup_mk2; rfl) )))
  | (apply ret_mk [some 0, some 1, some 2, some _]; exact AS; any_goals (apply okIx_mk; rfl))
  ))
set_option maxHeartbeats 8000000 in
theorem parents_ok (s : Scn) (ok : SOk s) (hc : ckS s = 0) : Runs Tryz.prog 23 [scA s] (scB s) (Det (.sl 8 1 0 s.ns.length none) [gB s.l, ndB s.ns, osB s.os s.hd, osR s.os s.hd, iB false s.dn, iB false s.up, blB s.tr, iB false s.st, .arr true 3 1 s.ns.length (intF (ptS s))]) := by
 have hmx : maxLen = 9223372036854775807 := by decide
 obtain ⟨hck, _, _, _⟩ := ckS_parts hc
 obtain ⟨hc1, hc2, _⟩ := ckE_zero hck
 have hN : NOK s.ns s.l := ⟨by rw [hc2]; exact hck, ok.hw⟩
 obtain ⟨_, hn24, _⟩ := hN.parts
 have hst := rstart_ok s.ns.length s.l s.c0 s.ns s.c1
 have hru := r42run_ok hN ok.hl ok.hn s.c0 s.c1
 have hco := fun x hx => rcodes_ok hN ok.hl ok.hn (MOK.run hN s.ns.length) s.c0 s.c1 none s.ns.length (by omega) x hx
 have hpl := ptP_len s
 have hp1 : ∀ x, ptP s (x + 1) = ptP s x ++ [ptM s x] := fun _ => rfl
 have hp0 : ptP s 0 = [] := rfl
 have hpm : ∀ x, ptM s x = ptK (codL (owD (s.ns.getD x nd0)) (hrd ((netP s.ns s.l).run M0 s.ns.length) x)) 8 := fun _ => rfl
 have hcl := fun x => codP_len (owD (s.ns.getD x nd0)) (hrd ((netP s.ns s.l).run M0 s.ns.length) x) (hrd ((netP s.ns s.l).run M0 s.ns.length) x).length
 generalize mlA ((netP s.ns s.l).run M0 s.ns.length) s.ns.length = ms at *
 rw [hc2] at hst hru hco
 have hnn : s.n = s.ns.length := hc2.symm
 refine Runs.mk tabOK Tryz.call23 Tryz.func23 rfl Tryz.ntmps23 Tryz.results23 rfl ?_
 (repeat' (first
  | (intro Q h; refine h ?_; clear h Q)
  | refine draw_mk (by decide +kernel) ?_
  | refine seq_go ?_
  | ((first | apply calld_detx [some 0, some 1] (hst)); exact AS; (any_goals (first | (apply nodup_mk2; rfl) )))
  | ((first | apply calld_detx [some 0, some 1] (hru)); exact AS; (any_goals (first | (apply nodup_mk2; rfl) )))
  ))
 refine loop_inv (σ := Nat) (fun x => x ≤ s.ns.length) (fun x => ⟨[(1, .ptr 8 8 0 0), (3, .ptr 9 2 0 0), (5, .sl 11 1 0 x none), (6, .val (.int .i64 x))], [gB s.l, ndB s.ns, osB s.os s.hd, osR s.os s.hd, iB false s.dn, iB false s.up, blB s.tr, iB false s.st, .var (scV s), .var [.val (.int .i64 s.ns.length), .sl 10 14 0 ms.length none], meB true ms, .arr true 3 1 x (intF (ptP s x))]⟩) (fun x => s.ns.length - x) (0) ?_ ?_ ?_
 ·omega
 ·rw [hp0]
  (apply le_mk [some 0, some 1, some 2, some 3, some 4, some 5, some 6, some 7, some 8, some _, some _, none]; exact AS; any_goals (apply okIx_mk; rfl))
 rintro X hx
 by_cases hxl : X < s.ns.length
 rotate_left
 ·obtain rfl : X = s.ns.length := by omega
  (repeat' (first
  | (intro Q h; refine h ?_; clear h Q)
  | (refine bcase_mk (fun hb => ?_) (fun hb => ?_) <;> (try simp only [nS, nT, eq_self, reduceCtorEq] at hb) <;> (try (exfalso; omega)))
  | refine seq_go ?_
  | (apply ret_mk [some 0, some 1, some 2, some 3, some 4, some 5, some 6, some 7, some 11]; exact AS; any_goals (apply okIx_mk; rfl))
  ))
 have hco := hco X hxl
 have hpm := hpm X
 have hp1 := hp1 X
 have hcl := hcl X
 rw [hrd_len] at hcl
 have hplx := hpl X
 have hcg : codL (owD (s.ns.getD X nd0)) (hrd ((netP s.ns s.l).run M0 s.ns.length) X) = codP (owD (s.ns.getD X nd0)) (hrd ((netP s.ns s.l).run M0 s.ns.length) X) 8 := by
  show codP _ _ (hrd _ X).length = _; rw [hrd_len]
 rw [hcg] at hco hpm
 generalize codP (owD (s.ns.getD X nd0)) (hrd ((netP s.ns s.l).run M0 s.ns.length) X) 8 = C at *
 rw [hpm] at hp1
 have hks : ∀ k, ptK C (k + 1) = if C.getD k 0 = 6 then (k : Int) + 1 else ptK C k := fun _ => rfl
 have hk0 : ptK C 0 = 0 := rfl
 have hkb := ptK_bd C
 generalize ptK C = K at *
 generalize ptP s X = P at *
 (repeat' (first
  | (intro Q h; refine h ?_; clear h Q)
  | (refine bcase_mk (fun hb => ?_) (fun hb => ?_) <;> (try simp only [nS, nT, eq_self, reduceCtorEq] at hb) <;> (try (exfalso; omega)))
  | refine seq_go ?_
  | ((first | apply call_detx [some 0, some 1, some 10] (hco) ); exact AS; any_goals (apply nodup_mk; rfl))
  ))
 refine loop_inv (σ := Nat) (fun x => x ≤ 8) (fun x => ⟨[(1, .ptr 8 8 0 0), (3, .ptr 9 2 0 0), (5, .sl 11 1 0 X none), (6, .val (.int .i64 X)), (7, .sl 12 1 0 8 none), (9, .val (.int .i64 (K x))), (10, .val (.int .i64 x))], [gB s.l, ndB s.ns, osB s.os s.hd, osR s.os s.hd, iB false s.dn, iB false s.up, blB s.tr, iB false s.st, .var (scV s), .var [.val (.int .i64 s.ns.length), .sl 10 14 0 ms.length none], meB true ms, .arr true 3 1 X (intF P), .arr true 3 1 8 (intF C)]⟩) (fun x => 8 - x) (0) ?_ ?_ ?_
 ·omega
 ·rw [hk0]
  (apply le_mk [some 0, some 1, some 2, some 3, some 4, some 5, some 6, some 7, some 8, some 9, some 10, some 11, some _]; exact AS; any_goals (apply okIx_mk; rfl))
 rintro k hk
 by_cases hkl : k < 8
 ·have hz : 0 + Int.toNat (k : Int) = k := by omega
  have hks := hks k
  by_cases h6 : C.getD k 0 = 6
  ·rw [if_pos h6] at hks
   rw [← hz] at h6
   (repeat' (first
  | (intro Q h; refine h ?_; clear h Q)
  | (refine bcase_mk (fun hb => ?_) (fun hb => ?_) <;> (try simp only [nS, nT, eq_self, reduceCtorEq] at hb) <;> (try (exfalso; omega)))
  | refine seq_go ?_
  | refine And.intro (by first | omega | ((try simp only [wS]); omega) | rfl | decide) ?_
  | (apply next_sub (Subtype.mk (k + 1) (by first | omega | (simp only; omega))); (focus (rw [hks]; apply le_mk [some 0, some 1, some 2, some 3, some 4, some 5, some 6, some 7, some 8, some 9, some 10, some 11, some 12]; exact AS; any_goals (apply okIx_mk; rfl))); (all_goals (try (first | (simp only; omega)))))
  ))
  ·rw [if_neg h6] at hks
   rw [← hz] at h6
   (repeat' (first
  | (intro Q h; refine h ?_; clear h Q)
  | (refine bcase_mk (fun hb => ?_) (fun hb => ?_) <;> (try simp only [nS, nT, eq_self, reduceCtorEq] at hb) <;> (try (exfalso; omega)))
  | refine seq_go ?_
  | refine And.intro (by first | omega | ((try simp only [wS]); omega) | rfl | decide) ?_
  | (apply next_sub (Subtype.mk (k + 1) (by first | omega | (simp only; omega))); (focus (rw [hks]; apply le_mk [some 0, some 1, some 2, some 3, some 4, some 5, some 6, some 7, some 8, some 9, some 10, some 11, some 12]; exact AS; any_goals (apply okIx_mk; rfl))); (all_goals (try (first | (simp only; omega)))))
  ))
 ·obtain rfl : k = 8 := by omega
  (repeat' (first
  | (intro Q h; refine h ?_; clear h Q)
  | (refine bcase_mk (fun hb => ?_) (fun hb => ?_) <;> (try simp only [nS, nT, eq_self, reduceCtorEq] at hb) <;> (try (exfalso; omega)))
  | refine seq_go ?_
  | refine And.intro (by first | omega | ((try simp only [wS]); omega) | rfl | decide) ?_
  | (apply next_sub (Subtype.mk (X + 1) (by first | omega | (simp only; omega))); (focus (rw [hp1]; apply le_mk [some 0, some 1, some 2, some 3, some 4, some 5, some 6, some 7, some 8, some 9, some 10, some _]; exact AS; any_goals (apply okIx_mk; rfl))); (all_goals (try (first | (simp only; omega)))))
  ))
  all_goals first | (rw [List.length_append]; rfl) | fail
end Go.Vx.L58
set_option maxRecDepth 100000
namespace Go.Vx.L58
open Go Go.Proofs
def rvU (U : List Int) (x : Nat) : List Int := (U.take (x + 1)).reverse
theorem rvU_len {U : List Int} {x : Nat} (h : x < U.length) : (rvU U x).length = x + 1 := by
 unfold rvU; rw [List.length_reverse, List.length_take]; omega
theorem take_snoc {U : List Int} {x : Nat} (h : x < U.length) : U.take (x + 1) = U.take x ++ [U.getD x 0] := by
 rw [List.getD_eq_getElem?_getD, List.getElem?_eq_getElem h, Option.getD_some]; exact (List.take_append_getElem h).symm
theorem rvU_eq {U : List Int} {x : Nat} (h : x < U.length) : rvU U x = U.getD x 0 :: (U.take x).reverse := by
 unfold rvU; rw [take_snoc h, List.reverse_append]; rfl
theorem rvU_succ {U : List Int} {x : Nat} (h : x + 1 < U.length) : rvU U (x + 1) = U.getD (x + 1) 0 :: rvU U x := rvU_eq h
theorem rvU_hd {U : List Int} {x : Nat} (h : x < U.length) : (rvU U x).getD 0 0 = U.getD x 0 := by rw [rvU_eq h]; rfl
theorem rvU_full {U : List Int} (h : 0 < U.length) : rvU U (U.length - 1) = U.reverse := by
 unfold rvU; rw [show U.length - 1 + 1 = U.length by omega, List.take_length]
theorem row_cons {ρ : Nat → Option Nat} {t n m : Nat} {p : Int} {C : List Int} {c0 : Nat → Nat → AV} (hn : m = n) (h0 : c0 0 0 = .val (.int .i64 p)) :
  BSub ρ (.arr true t 1 n (intF (p :: C))) (.arr true t 1 m (appF 1 c0 fun i j => intF C (0 + i) j)) := by
 refine bsub_arr (fun _ => rfl) hn fun i hi j hj => ?_
 obtain rfl : j = 0 := by omega
 cases i with
 | zero =>
  rw [appF_lt (by omega), h0]
  exact sub_refl_val _ _
 | succ i =>
  rw [appF_ge (by omega), Nat.add_sub_cancel, Nat.zero_add]
  show sub ρ (.val (.int .i64 ((p :: C).getD (i + 1) 0))) (.val (.int .i64 (C.getD i 0)))
  rw [List.getD_cons_succ]
  exact sub_refl_val _ _
set_option maxHeartbeats 8000000 in
theorem rroute_ok (s : Scn) (ok : SOk s) (hc : ckS s = 0) (v : Nat) (hv : v < s.ns.length) :
  Runs Tryz.prog 32 [scA s, .sl 8 1 0 s.ns.length none, .val (.int .i64 v)] [gB s.l, ndB s.ns, osB s.os s.hd, osR s.os s.hd, iB false s.dn, iB false s.up, blB s.tr, iB false s.st, .arr false 3 1 s.ns.length (intF (ptS s))]
   (Det (.sl 9 1 0 (upL s v).length (capL (upL s v).length)) [gB s.l, ndB s.ns, osB s.os s.hd, osR s.os s.hd, iB false s.dn, iB false s.up, blB s.tr, iB false s.st, .arr false 3 1 s.ns.length (intF (ptS s)), .arr true 3 1 (upL s v).length (intF (upL s v).reverse)]) := by
 have hmx : maxLen = 9223372036854775807 := by decide
 obtain ⟨hck, _, _, _⟩ := ckS_parts hc
 obtain ⟨hc1, hc2, _⟩ := ckE_zero hck
 obtain ⟨hN, hn24, _, _⟩ := sc_parts ok hc
 have hU := upL_bd ok hc hv
 have hst := fun j h => upL_step (s := s) (v := v) (j := j) h
 have hen := upL_end ok hc hv
 have hpt := fun x hx => pt_par ok hc (x := x) hx
 have hpg : ∀ y, y < s.ns.length → (ptS s).getD y 0 = ptM s y := ptP_get s s.ns.length
 have hpr := fun a p => rpeer_ok s.n s.l s.c0 ok.hl a p
 rw [← hc2] at hpr
 have hhd : (upL s v).getD 0 0 = (v : Int) := clF_hd ..
 generalize upL s v = U at *
 have hl := fun x h => rvU_len (U := U) (x := x) h
 have h1 := fun x h => rvU_succ (U := U) (x := x) h
 have h0 := fun x h => rvU_hd (U := U) (x := x) h
 have hf := rvU_full (U := U) (by omega)
 have h00 : rvU U 0 = [(v : Int)] := by rw [rvU_eq (by omega), hhd]; rfl
 rw [← hf]
 generalize rvU U = R at *
 generalize hPP : ptS s = P at *
 refine Runs.mk tabOK Tryz.call32 Tryz.func32 rfl Tryz.ntmps32 Tryz.results32 rfl ?_
 (repeat' (first
  | (intro Q h; refine h ?_; clear h Q)
  | refine seq_go ?_
  ))
 refine loop_inv (σ := Nat) (fun x => x < U.length) (fun x => ⟨[(1, .sl 8 1 0 s.ns.length none), (3, .ptr 9 8 0 0), (7, .sl 10 1 0 (x + 1) (capL (x + 1))), (8, .val (.int .i64 x))], [gB s.l, ndB s.ns, osB s.os s.hd, osR s.os s.hd, iB false s.dn, iB false s.up, blB s.tr, iB false s.st, .arr false 3 1 s.ns.length (intF P), .var (scV s), .arr true 3 1 (x + 1) (intF (R x))]⟩) (fun x => U.length - x) (0) ?_ ?_ ?_
 ·omega
 ·rw [h00]
  (apply le_mk [some 0, some 1, some 2, some 3, some 4, some 5, some 6, some 7, some 8, some 9, some 10]; (focus (iterate 2 (all_goals (repeat' (first | exact rows_same rfl rfl rfl rfl | exact os_same rfl rfl rfl rfl | exact subL_nil | exact trivial | (intro Q h; refine h ?_; clear h Q) | refine And.intro ?_ ?_ | refine subL_cons ?_ ?_ | refine var_mk ?_ | exact sub_ptr rfl rfl | exact sub_sl rfl rfl rfl | exact sub_refl_val _ _ | exact row_same rfl rfl rfl | refine cells_succ ?_ ?_ | exact cell0 | (apply row_lit rfl; (focus (refine cells_succ ?_ ?_))) ))))); any_goals (apply okIx_mk; rfl))
 rintro x hx
 have hh0 := h0 x hx
 have hux := hU.2 x hx
 obtain ⟨y, hy⟩ := Int.eq_ofNat_of_zero_le hux.1
 rw [hy] at hh0 hux
 have hpy := hpg y (by omega)
 have hz : 0 + Int.toNat 0 = 0 := rfl
 have hzy : 0 + ((R x).getD (0 + Int.toNat 0) 0).toNat = y := by rw [hz, hh0]; omega
 have hpy' : P.getD (0 + ((R x).getD (0 + Int.toNat 0) 0).toNat) 0 = ptM s y := by rw [hzy]; exact hpy
 have hb1 : 0 ≤ (R x).getD (0 + Int.toNat 0) 0 ∧ (R x).getD (0 + Int.toNat 0) 0 < s.ns.length := by rw [hz, hh0]; omega
 by_cases hl1 : x + 1 < U.length
 ·obtain ⟨s1, s2⟩ := hst x hl1
  rw [hy, Int.toNat_natCast] at s1 s2
  rcases hpt y (by omega) with ⟨_, e2⟩ | ⟨⟨e1, e1'⟩, e2, y', q, hy', e3, e4⟩
  ·rw [e2] at s1; exact absurd s1 (by decide)
  have hpr := hpr y (ptM s y)
  rw [e4] at hpr
  have hR1 := h1 x hl1
  rw [← s2, e3] at hR1
  rw [← hpy'] at hpr e1 e1'
  rw [show (y : Int) = (R x).getD (0 + Int.toNat 0) 0 by rw [hz, hh0]] at hpr
  generalize R x = C at *
  (repeat' (first
  | (intro Q h; refine h ?_; clear h Q)
  | (with_reducible refine bcase_true ?_)
  | (refine bcase_mk (fun hb => ?_) (fun hb => ?_) <;> (try simp only [nS, nT, eq_self, reduceCtorEq] at hb) <;> (try (exfalso; omega)))
  | refine draw_mk (by decide +kernel) ?_
  | refine seq_go ?_
  | refine And.intro (by first | omega | ((try simp only [wS]); omega) | rfl | decide) ?_
  | ((first | apply calld_detx [some 0] (hpr)); exact AS; (any_goals (first | (apply nodup_mk2; rfl) )))
  | (apply next_sub (Subtype.mk (x + 1) (by first | omega | (simp only; omega))); (focus (rw [hR1]; apply le_mk [some 0, some 1, some 2, some 3, some 4, some 5, some 6, some 7, some 8, some 9, some _]; (focus (iterate 2 (all_goals (repeat' (first | exact rows_same rfl rfl rfl rfl | exact os_same rfl rfl rfl rfl | exact subL_nil | exact trivial | (intro Q h; refine h ?_; clear h Q) | refine And.intro ?_ ?_ | refine subL_cons ?_ ?_ | refine var_mk ?_ | exact sub_ptr rfl rfl | exact sub_sl rfl rfl rfl | exact sub_refl_val _ _ | exact row_same rfl rfl rfl | ((first | refine sub_int ?_ | refine sub_sl rfl rfl ?_ ); first | with_reducible rfl | omega | ((try simp only [wS]); omega) | rfl) ))))); any_goals (apply okIx_mk; rfl))); (all_goals (try (first | (simp only; omega)))))
  ))
  all_goals exact row_cons (by simp only; omega) rfl
 ·obtain rfl : x = U.length - 1 := by omega
  rw [hy, Int.toNat_natCast] at hen
  rcases hpt y (by omega) with ⟨e1, _⟩ | ⟨_, _, y', q, _, e3, _⟩
  ·rw [← hpy'] at e1
   rw [show U.length - 1 + 1 = U.length by omega]
   (repeat' (first
  | (intro Q h; refine h ?_; clear h Q)
  | (refine bcase_mk (fun hb => ?_) (fun hb => ?_) <;> (try simp only [nS, nT, eq_self, reduceCtorEq] at hb) <;> (try (exfalso; omega)))
  | refine seq_go ?_
  | refine And.intro (by first | omega | ((try simp only [wS]); omega) | rfl | decide) ?_
  | (apply ret_mk [some 0, some 1, some 2, some 3, some 4, some 5, some 6, some 7, some 8, some 10]; exact AS; any_goals (apply okIx_mk; rfl))
  ))
  ·rw [hen] at e3; omega
end Go.Vx.L58
set_option maxRecDepth 100000
namespace Go.Vx.L58
open Go Go.Proofs
set_option maxHeartbeats 8000000 in
theorem rway_ok (s : Scn) (htr : s.tr.length = s.ns.length) (U : List Int) (hU1 : 2 ≤ U.length) (hU2 : U.length ≤ 24) (hU : ∀ i, i < U.length → 0 ≤ U.getD i 0 ∧ U.getD i 0 < s.ns.length) :
  Runs Tryz.prog 33 [scA s, .sl 8 1 0 U.length none] [gB s.l, ndB s.ns, osB s.os s.hd, osR s.os s.hd, iB false s.dn, iB false s.up, blB s.tr, iB false s.st, .arr false 3 1 U.length (intF U.reverse)]
   (Det (.sl 8 1 (U.length - 1 - wM s.tr U) (wM s.tr U + 1) none) [gB s.l, ndB s.ns, osB s.os s.hd, osR s.os s.hd, iB false s.dn, iB false s.up, blB s.tr, iB false s.st, .arr false 3 1 U.length (intF U.reverse)]) := by
 have hEs : ∀ f e, wE s.tr U (f + 1) e = if e + 1 < U.length ∧ s.tr.getD (U.getD e 0).toNat false = true then wE s.tr U f (e + 1) else e := fun _ _ => rfl
 have hE0 : ∀ e, wE s.tr U 0 e = e := fun _ => rfl
 have hMM : wM s.tr U = min (wE s.tr U (U.length - 1) 1) (U.length - 1) := rfl
 have hEg := wE_ge s.tr U
 have hrv : ∀ i, i < U.length → U.reverse.getD i 0 = U.getD (U.length - 1 - i) 0 := fun i h => rev_getD U i h
 generalize wE s.tr U = W at *
 generalize wM s.tr U = M at *
 generalize U.reverse = L at *
 refine Runs.mk tabOK Tryz.call33 Tryz.func33 rfl Tryz.ntmps33 Tryz.results33 rfl ?_
 (repeat' (first
  | (intro Q h; refine h ?_; clear h Q)
  | refine seq_go ?_
  ))
 refine loop_inv (σ := Nat) (fun x => 1 ≤ x ∧ x + 1 ≤ U.length ∧ W (U.length - x) x = W (U.length - 1) 1) (fun x => ⟨[(1, .sl 8 1 0 U.length none), (2, .ptr 9 8 0 0), (5, .val (.int .i64 ((U.length : Int) - 1 - x)))], [gB s.l, ndB s.ns, osB s.os s.hd, osR s.os s.hd, iB false s.dn, iB false s.up, blB s.tr, iB false s.st, .arr false 3 1 U.length (intF L), .var (scV s)]⟩) (fun x => U.length - x) (1) ?_ ?_ ?_
 ·exact ⟨by omega, by omega, rfl⟩
 ·(apply le_mk [some 0, some 1, some 2, some 3, some 4, some 5, some 6, some 7, some 8, some 9]; exact AS; any_goals (apply okIx_mk; rfl))
  all_goals (rw [IntKind.wrap_i64]; omega)
 rintro e ⟨he, hel, hee⟩
 have hu := hU e (by omega)
 have hee' := hEs (U.length - e - 1) e
 rw [show U.length - e - 1 + 1 = U.length - e by omega, hee] at hee'
 have hri := hrv (U.length - 1 - e) (by omega)
 rw [show U.length - 1 - (U.length - 1 - e) = e by omega] at hri
 have hidx : 0 + Int.toNat ((U.length : Int) - 1 - e) = U.length - 1 - e := by omega
 rw [← hidx] at hri
 rw [← hri] at hu hee'
 by_cases hl : e + 1 < U.length
 ·cases hh : s.tr.getD (0 + (L.getD (0 + Int.toNat ((U.length : Int) - 1 - e)) 0).toNat) false
  ·rw [if_neg (by rw [← Nat.zero_add (L.getD _ 0).toNat, hh]; simp)] at hee'
   have hMe : M = e := by omega
   subst hMe
   (repeat' (first
  | (intro Q h; refine h ?_; clear h Q)
  | (refine bcase_mk (fun hb => ?_) (fun hb => ?_) <;> (try simp only [nS, nT, eq_self, reduceCtorEq] at hb) <;> (try (exfalso; (first | omega | (rw [hh] at hb; cases hb)); done)))
  | refine draw_mk (by decide +kernel) ?_
  | refine seq_go ?_
  | refine And.intro (by first | omega | ((try simp only [wS]); omega) | rfl | decide) ?_
  | (apply ret_mk [some 0, some 1, some 2, some 3, some 4, some 5, some 6, some 7, some 8]; (focus (iterate 2 (all_goals (repeat' (first | exact rows_same rfl rfl rfl rfl | exact os_same rfl rfl rfl rfl | exact trivial | (intro Q h; refine h ?_; clear h Q) | refine And.intro ?_ ?_ | exact row_same rfl rfl rfl ))))); any_goals (apply okIx_mk; rfl))
  ))
   all_goals exact sub_sl rfl (by omega) (by omega)
  ·rw [if_pos ⟨hl, by rw [← Nat.zero_add (L.getD _ 0).toNat, hh]⟩] at hee'
   have hn : W (U.length - (e + 1)) (e + 1) = W (U.length - 1) 1 := by rw [show U.length - (e + 1) = U.length - e - 1 by omega]; exact hee'.symm
   (repeat' (first
  | (intro Q h; refine h ?_; clear h Q)
  | (refine bcase_mk (fun hb => ?_) (fun hb => ?_) <;> (try simp only [nS, nT, eq_self, reduceCtorEq] at hb) <;> (try (exfalso; (first | omega | (rw [hh] at hb; cases hb)); done)))
  | refine draw_mk (by decide +kernel) ?_
  | refine seq_go ?_
  | refine And.intro (by first | omega | ((try simp only [wS]); omega) | rfl | decide) ?_
  | (apply next_sub (Subtype.mk (e + 1) ⟨by omega, by omega, hn⟩); (focus (apply le_mk [some 0, some 1, some 2, some 3, some 4, some 5, some 6, some 7, some 8, some 9]; exact AS; any_goals (apply okIx_mk; rfl))); (all_goals (try (first | (simp only; omega)))))
  ))
   all_goals (rw [IntKind.wrap_i64]; omega)
 ·have hM : M = U.length - 1 := by
   have := hEg (U.length - 1) 1
   rw [if_neg (fun h => hl h.1)] at hee'
   omega
  subst hM
  (repeat' (first
  | (intro Q h; refine h ?_; clear h Q)
  | (refine bcase_mk (fun hb => ?_) (fun hb => ?_) <;> (try simp only [nS, nT, eq_self, reduceCtorEq] at hb) <;> (try (exfalso; omega)))
  | refine seq_go ?_
  | (apply ret_mk [some 0, some 1, some 2, some 3, some 4, some 5, some 6, some 7, some 8]; (focus (iterate 2 (all_goals (repeat' (first | exact rows_same rfl rfl rfl rfl | exact os_same rfl rfl rfl rfl | exact trivial | (intro Q h; refine h ?_; clear h Q) | refine And.intro ?_ ?_ | exact row_same rfl rfl rfl ))))); any_goals (apply okIx_mk; rfl))
  ))
  all_goals exact sub_sl rfl (by omega) (by omega)
set_option maxHeartbeats 8000000 in
theorem rdelay_ok (s : Scn) (hl : s.l.length ≤ 1000) (h1 : s.dn.length = s.l.length) (h2 : s.up.length = s.l.length) (hne : ∀ i, i < s.l.length → (s.l.getD i ed0).a ≠ (s.l.getD i ed0).b) (P : List Int) (X : Nat) (hx : X < P.length) (b : Bool) :
  Runs Tryz.prog 34 [scA s, .sl 8 1 0 P.length none, .val (.int .i64 X), .sb b] [gB s.l, ndB s.ns, osB s.os s.hd, osR s.os s.hd, iB false s.dn, iB false s.up, blB s.tr, iB false s.st, .arr false 3 1 P.length (intF P)]
   (Det (.val (.int .i64 (if b = true then (upF s X (P.getD X 0)).t else (upF s X (P.getD X 0)).b))) [gB s.l, ndB s.ns, osB s.os s.hd, osR s.os s.hd, iB false s.dn, iB false s.up, blB s.tr, iB false s.st, .arr false 3 1 P.length (intF P)]) := by
 have hmx : maxLen = 9223372036854775807 := by decide
 have hzx : 0 + Int.toNat (X : Int) = X := by omega
 have hpx : P.getD (0 + Int.toNat (X : Int)) 0 = P.getD X 0 := by rw [hzx]
 have hu : ∀ k i, upW s X (P.getD X 0) (k + 1) i = if (s.l.getD i ed0).a = X ∧ (s.l.getD i ed0).pa = P.getD X 0 then ⟨(s.l.getD i ed0).b, s.up.getD i 0, s.dn.getD i 0⟩
  else if (s.l.getD i ed0).b = X ∧ (s.l.getD i ed0).pb = P.getD X 0 then ⟨(s.l.getD i ed0).a, s.dn.getD i 0, s.up.getD i 0⟩ else upW s X (P.getD X 0) k (i + 1) := fun _ _ => rfl
 have hu0 : ∀ i, upW s X (P.getD X 0) 0 i = ⟨-1, 0, 0⟩ := fun _ => rfl
 have huF : upF s X (P.getD X 0) = upW s X (P.getD X 0) s.l.length 0 := rfl
 rw [huF]
 rw [← hpx] at hu hu0 ⊢
 generalize hW : upW s X (P.getD (0 + Int.toNat (X : Int)) 0) = W at *
 cases b
 ·simp only [Bool.false_eq_true, if_false]
  refine Runs.mk tabOK Tryz.call34 Tryz.func34 rfl Tryz.ntmps34 Tryz.results34 rfl ?_
  (repeat' (first
  | (intro Q h; refine h ?_; clear h Q)
  | refine seq_go ?_
  ))
  refine loop_inv (σ := Nat) (fun x => x ≤ s.l.length ∧ W (s.l.length - x) x = W s.l.length 0) (fun x => ⟨[(1, .sl 8 1 0 P.length none), (2, .val (.int .i64 X)), (3, .sb false), (4, .ptr 9 8 0 0), (9, .val (.int .i64 x))], [gB s.l, ndB s.ns, osB s.os s.hd, osR s.os s.hd, iB false s.dn, iB false s.up, blB s.tr, iB false s.st, .arr false 3 1 P.length (intF P), .var (scV s)]⟩) (fun x => s.l.length - x) (0) ?_ ?_ ?_
  ·exact ⟨by omega, rfl⟩
  ·(apply le_mk [some 0, some 1, some 2, some 3, some 4, some 5, some 6, some 7, some 8, some 9]; exact AS; any_goals (apply okIx_mk; rfl))
  rintro i ⟨hi, hie⟩
  by_cases hil : i < s.l.length
  ·have hz : 0 + Int.toNat (i : Int) = i := by omega
   have hu := hu (s.l.length - (i + 1)) i
   rw [show s.l.length - (i + 1) + 1 = s.l.length - i by omega, hie] at hu
   have hne := hne i hil
   rw [show s.l.getD i ed0 = s.l.getD (0 + Int.toNat (i : Int)) ed0 by rw [hz]] at hu hne
   have hdn : s.dn.getD (0 + Int.toNat (i : Int)) 0 = s.dn.getD i 0 := by rw [hz]
   have hup : s.up.getD (0 + Int.toNat (i : Int)) 0 = s.up.getD i 0 := by rw [hz]
   by_cases c1 : (s.l.getD (0 + Int.toNat (i : Int)) ed0).a = X ∧ (s.l.getD (0 + Int.toNat (i : Int)) ed0).pa = P.getD (0 + Int.toNat (X : Int)) 0
   ·rw [if_pos c1] at hu
    rw [hu]
    obtain ⟨c1, c1'⟩ := c1
    (repeat' (first
  | (intro Q h; refine h ?_; clear h Q)
  | (with_reducible refine bcase_false ?_)
  | (refine bcase_mk (fun hb => ?_) (fun hb => ?_) <;> (try simp only [nS, nT, eq_self, reduceCtorEq] at hb) <;> (try (exfalso; omega)))
  | refine draw_mk (by decide +kernel) ?_
  | refine seq_go ?_
  | refine And.intro (by first | omega | ((try simp only [wS]); omega) | rfl | decide) ?_
  | (apply ret_mk [some 0, some 1, some 2, some 3, some 4, some 5, some 6, some 7, some 8]; exact AS; any_goals (apply okIx_mk; rfl))
  ))
    all_goals exact hdn
   ·rw [if_neg c1] at hu
    have c1' : (s.l.getD (0 + Int.toNat (i : Int)) ed0).a = X → (s.l.getD (0 + Int.toNat (i : Int)) ed0).pa = P.getD (0 + Int.toNat (X : Int)) 0 → False := fun a b => c1 ⟨a, b⟩
    by_cases c2 : (s.l.getD (0 + Int.toNat (i : Int)) ed0).b = X ∧ (s.l.getD (0 + Int.toNat (i : Int)) ed0).pb = P.getD (0 + Int.toNat (X : Int)) 0
    ·rw [if_pos c2] at hu
     rw [hu]
     obtain ⟨c2, c2'⟩ := c2
     (repeat' (first
  | (intro Q h; refine h ?_; clear h Q)
  | (with_reducible refine bcase_false ?_)
  | (refine bcase_mk (fun hb => ?_) (fun hb => ?_) <;> (try simp only [nS, nT, eq_self, reduceCtorEq] at hb) <;> (try (exfalso; omega)))
  | refine draw_mk (by decide +kernel) ?_
  | refine seq_go ?_
  | refine And.intro (by first | omega | ((try simp only [wS]); omega) | rfl | decide) ?_
  | (apply ret_mk [some 0, some 1, some 2, some 3, some 4, some 5, some 6, some 7, some 8]; exact AS; any_goals (apply okIx_mk; rfl))
  ))
     all_goals exact hup
    ·rw [if_neg c2] at hu
     have c2' : (s.l.getD (0 + Int.toNat (i : Int)) ed0).b = X → (s.l.getD (0 + Int.toNat (i : Int)) ed0).pb = P.getD (0 + Int.toNat (X : Int)) 0 → False := fun a b => c2 ⟨a, b⟩
     (repeat' (first
  | (intro Q h; refine h ?_; clear h Q)
  | (refine bcase_mk (fun hb => ?_) (fun hb => ?_) <;> (try simp only [nS, nT, eq_self, reduceCtorEq] at hb) <;> (try (exfalso; omega)))
  | refine draw_mk (by decide +kernel) ?_
  | refine seq_go ?_
  | refine And.intro (by first | omega | ((try simp only [wS]); omega) | rfl | decide) ?_
  | (apply next_sub (Subtype.mk (i + 1) ⟨by omega, hu.symm⟩); (focus (apply le_mk [some 0, some 1, some 2, some 3, some 4, some 5, some 6, some 7, some 8, some 9]; exact AS; any_goals (apply okIx_mk; rfl))); (all_goals (try (first | (simp only; omega)))))
  ))
     all_goals first | exact absurd hb (fun h => c2' (by assumption) h) | exact absurd hb (fun h => c1' (by assumption) h) | fail
  ·obtain rfl : i = s.l.length := by omega
   rw [Nat.sub_self, hu0] at hie
   rw [← hie]
   (repeat' (first
  | (intro Q h; refine h ?_; clear h Q)
  | (refine bcase_mk (fun hb => ?_) (fun hb => ?_) <;> (try simp only [nS, nT, eq_self, reduceCtorEq] at hb) <;> (try (exfalso; omega)))
  | refine seq_go ?_
  | (apply ret_mk [some 0, some 1, some 2, some 3, some 4, some 5, some 6, some 7, some 8]; exact AS; any_goals (apply okIx_mk; rfl))
  ))
 ·simp only [if_true]
  refine Runs.mk tabOK Tryz.call34 Tryz.func34 rfl Tryz.ntmps34 Tryz.results34 rfl ?_
  (repeat' (first
  | (intro Q h; refine h ?_; clear h Q)
  | refine seq_go ?_
  ))
  refine loop_inv (σ := Nat) (fun x => x ≤ s.l.length ∧ W (s.l.length - x) x = W s.l.length 0) (fun x => ⟨[(1, .sl 8 1 0 P.length none), (2, .val (.int .i64 X)), (3, .sb true), (4, .ptr 9 8 0 0), (9, .val (.int .i64 x))], [gB s.l, ndB s.ns, osB s.os s.hd, osR s.os s.hd, iB false s.dn, iB false s.up, blB s.tr, iB false s.st, .arr false 3 1 P.length (intF P), .var (scV s)]⟩) (fun x => s.l.length - x) (0) ?_ ?_ ?_
  ·exact ⟨by omega, rfl⟩
  ·(apply le_mk [some 0, some 1, some 2, some 3, some 4, some 5, some 6, some 7, some 8, some 9]; exact AS; any_goals (apply okIx_mk; rfl))
  rintro i ⟨hi, hie⟩
  by_cases hil : i < s.l.length
  ·have hz : 0 + Int.toNat (i : Int) = i := by omega
   have hu := hu (s.l.length - (i + 1)) i
   rw [show s.l.length - (i + 1) + 1 = s.l.length - i by omega, hie] at hu
   have hne := hne i hil
   rw [show s.l.getD i ed0 = s.l.getD (0 + Int.toNat (i : Int)) ed0 by rw [hz]] at hu hne
   have hdn : s.dn.getD (0 + Int.toNat (i : Int)) 0 = s.dn.getD i 0 := by rw [hz]
   have hup : s.up.getD (0 + Int.toNat (i : Int)) 0 = s.up.getD i 0 := by rw [hz]
   by_cases c1 : (s.l.getD (0 + Int.toNat (i : Int)) ed0).a = X ∧ (s.l.getD (0 + Int.toNat (i : Int)) ed0).pa = P.getD (0 + Int.toNat (X : Int)) 0
   ·rw [if_pos c1] at hu
    rw [hu]
    obtain ⟨c1, c1'⟩ := c1
    (repeat' (first
  | (intro Q h; refine h ?_; clear h Q)
  | (with_reducible refine bcase_true ?_)
  | (refine bcase_mk (fun hb => ?_) (fun hb => ?_) <;> (try simp only [nS, nT, eq_self, reduceCtorEq] at hb) <;> (try (exfalso; omega)))
  | refine draw_mk (by decide +kernel) ?_
  | refine seq_go ?_
  | refine And.intro (by first | omega | ((try simp only [wS]); omega) | rfl | decide) ?_
  | (apply ret_mk [some 0, some 1, some 2, some 3, some 4, some 5, some 6, some 7, some 8]; exact AS; any_goals (apply okIx_mk; rfl))
  ))
    all_goals exact hup
   ·rw [if_neg c1] at hu
    have c1' : (s.l.getD (0 + Int.toNat (i : Int)) ed0).a = X → (s.l.getD (0 + Int.toNat (i : Int)) ed0).pa = P.getD (0 + Int.toNat (X : Int)) 0 → False := fun a b => c1 ⟨a, b⟩
    by_cases c2 : (s.l.getD (0 + Int.toNat (i : Int)) ed0).b = X ∧ (s.l.getD (0 + Int.toNat (i : Int)) ed0).pb = P.getD (0 + Int.toNat (X : Int)) 0
    ·rw [if_pos c2] at hu
     rw [hu]
     obtain ⟨c2, c2'⟩ := c2
     (repeat' (first
  | (intro Q h; refine h ?_; clear h Q)
  | (with_reducible refine bcase_true ?_)
  | (refine bcase_mk (fun hb => ?_) (fun hb => ?_) <;> (try simp only [nS, nT, eq_self, reduceCtorEq] at hb) <;> (try (exfalso; omega)))
  | refine draw_mk (by decide +kernel) ?_
  | refine seq_go ?_
  | refine And.intro (by first | omega | ((try simp only [wS]); omega) | rfl | decide) ?_
  | (apply ret_mk [some 0, some 1, some 2, some 3, some 4, some 5, some 6, some 7, some 8]; exact AS; any_goals (apply okIx_mk; rfl))
  ))
     all_goals exact hdn
    ·rw [if_neg c2] at hu
     have c2' : (s.l.getD (0 + Int.toNat (i : Int)) ed0).b = X → (s.l.getD (0 + Int.toNat (i : Int)) ed0).pb = P.getD (0 + Int.toNat (X : Int)) 0 → False := fun a b => c2 ⟨a, b⟩
     (repeat' (first
  | (intro Q h; refine h ?_; clear h Q)
  | (refine bcase_mk (fun hb => ?_) (fun hb => ?_) <;> (try simp only [nS, nT, eq_self, reduceCtorEq] at hb) <;> (try (exfalso; omega)))
  | refine draw_mk (by decide +kernel) ?_
  | refine seq_go ?_
  | refine And.intro (by first | omega | ((try simp only [wS]); omega) | rfl | decide) ?_
  | (apply next_sub (Subtype.mk (i + 1) ⟨by omega, hu.symm⟩); (focus (apply le_mk [some 0, some 1, some 2, some 3, some 4, some 5, some 6, some 7, some 8, some 9]; exact AS; any_goals (apply okIx_mk; rfl))); (all_goals (try (first | (simp only; omega)))))
  ))
     all_goals first | exact absurd hb (fun h => c2' (by assumption) h) | exact absurd hb (fun h => c1' (by assumption) h) | fail
  ·obtain rfl : i = s.l.length := by omega
   rw [Nat.sub_self, hu0] at hie
   rw [← hie]
   (repeat' (first
  | (intro Q h; refine h ?_; clear h Q)
  | (refine bcase_mk (fun hb => ?_) (fun hb => ?_) <;> (try simp only [nS, nT, eq_self, reduceCtorEq] at hb) <;> (try (exfalso; omega)))
  | refine seq_go ?_
  | (apply ret_mk [some 0, some 1, some 2, some 3, some 4, some 5, some 6, some 7, some 8]; exact AS; any_goals (apply okIx_mk; rfl))
  ))
end Go.Vx.L58

/- Lemmas of a small executor for the model, and contracts of functions, used for the law that this claim proves. No condition. -/
import Derived.Test.YtodbfpjjahpahaaGreatDoorEW3
import Derived.Test.YtodbfpjjahpahaaGreatDoorERTA
import Derived.Test.YtodbfpjjahpahaaGreatDoorEPA
set_option linter.unusedSimpArgs false
set_option linter.unusedVariables false
set_option maxRecDepth 100000
namespace Go.Vx.L58
open Go Go.Proofs
set_option maxHeartbeats 4000000 in
theorem c0c (os : List Osc) (hd : Nat -> Value) (i : Nat) (hi : i < os.length) (hs16 : (os.getD i os0).sg.length <= 16) (k : Nat) (hk : k < (os.getD i os0).sg.length) :
  Runs Tryz.prog 69 [oA os hd i, .val (.int .i64 k)] [osR os hd] (Det (.val (.int .i64 (c48 (os.getD i os0).sg k))) [osR os hd]) := by
 have hz : Int.toNat (k : Int) = k := Int.toNat_natCast k
 have hw : (IntKind.i64.wrap ((k : Int) - 1)).toNat = k - 1 := by rw [IntKind.wrap_i64]; omega
 have hcn : c48 (os.getD i os0).sg k = if ((os.getD i os0).sg.getD (Int.toNat (k : Int)) sg0).a < 0 \/ 1125899906842624 < ((os.getD i os0).sg.getD (Int.toNat (k : Int)) sg0).a \/ ((os.getD i os0).sg.getD (Int.toNat (k : Int)) sg0).p < -500000 \/ 500000 < ((os.getD i os0).sg.getD (Int.toNat (k : Int)) sg0).p then 3
   else if k = 0 /\ ((os.getD i os0).sg.getD (Int.toNat (k : Int)) sg0).a ≠ 0 then 7 else if 0 < k /\ ((os.getD i os0).sg.getD (Int.toNat (k : Int)) sg0).a <= ((os.getD i os0).sg.getD (IntKind.i64.wrap ((k : Int) - 1)).toNat sg0).a then 12 else 0 := by
  rw [hz, hw]; rfl
 generalize c48 (os.getD i os0).sg k = c at *
 refine Runs.mk a0k Tryz.call69 Tryz.func69 rfl Tryz.ntmps69 Tryz.results69 rfl ?_
 (repeat' (first
  | refine SP ?_
  | (apply a0a <;> intro hb <;> (try simp only [nS, nT, eq_self, reduceCtorEq] at hb) <;> (try (exfalso; omega)))
  | refine a0q (by decide +kernel) ?_
  | refine a0c ?_
  | refine OB ?_
  | exact RT [some 0]
  ))
 all_goals first
  | (rw [hcn, if_pos (by omega)])
  | (rw [hcn, if_neg (by omega), if_pos (by omega)])
  | (rw [hcn, if_neg (by omega), if_neg (by omega), if_pos (by omega)])
  | (rw [hcn, if_neg (by omega), if_neg (by omega), if_neg (by omega)])
  | fail
set_option maxHeartbeats 4000000 in
theorem a8h (os : List Osc) (hd : Nat -> Value) (i : Nat) (hi : i < os.length) :
  Runs Tryz.prog 29 [oA os hd i] [osR os hd] (Det (.val (.int .i64 (ckO (os.getD i os0)))) [osR os hd]) := by
 by_cases c1 : (os.getD i os0).sg.length = 0
 ·rw [show ckO (os.getD i os0) = 14 by unfold ckO; rw [if_pos c1]]
  refine Runs.mk a0k Tryz.call29 Tryz.func29 rfl Tryz.ntmps29 Tryz.results29 rfl ?_
  (repeat' (first
  | refine SP ?_
  | (apply a0a <;> intro hb <;> (try simp only [nS, nT, eq_self, reduceCtorEq] at hb) <;> (try (exfalso; omega)))
  | refine a0c ?_
  | exact RT [some 0]
  ))
 by_cases c2 : 16 < (os.getD i os0).sg.length
 ·rw [show ckO (os.getD i os0) = 6 by unfold ckO; rw [if_neg c1, if_pos c2]]
  refine Runs.mk a0k Tryz.call29 Tryz.func29 rfl Tryz.ntmps29 Tryz.results29 rfl ?_
  (repeat' (first
  | refine SP ?_
  | (apply a0a <;> intro hb <;> (try simp only [nS, nT, eq_self, reduceCtorEq] at hb) <;> (try (exfalso; omega)))
  | refine a0c ?_
  | exact RT [some 0]
  ))
 by_cases c3 : (os.getD i os0).ph < -1125899906842624 \/ 1125899906842624 < (os.getD i os0).ph
 ·rw [show ckO (os.getD i os0) = 3 by unfold ckO; rw [if_neg c1, if_neg c2, if_pos c3]]
  refine Runs.mk a0k Tryz.call29 Tryz.func29 rfl Tryz.ntmps29 Tryz.results29 rfl ?_
  (repeat' (first
  | refine SP ?_
  | (apply a0a <;> intro hb <;> (try simp only [nS, nT, eq_self, reduceCtorEq] at hb) <;> (try (exfalso; omega)))
  | refine a0c ?_
  | exact RT [some 0]
  ))
 rw [show ckO (os.getD i os0) = b84 (os.getD i os0).sg (os.getD i os0).sg.length 0 by unfold ckO; rw [if_neg c1, if_neg c2, if_neg c3]]
 have hsg := c0c os hd i hi (by omega)
 refine Runs.mk a0k Tryz.call29 Tryz.func29 rfl Tryz.ntmps29 Tryz.results29 rfl ?_
 (repeat' (first
  | refine SP ?_
  | (apply a0a <;> intro hb <;> (try simp only [nS, nT, eq_self, reduceCtorEq] at hb) <;> (try (exfalso; omega)))
  | refine a0c ?_
  ))
 refine a0p (σ := Nat) (fun x => x <= (os.getD i os0).sg.length /\ b84 (os.getD i os0).sg ((os.getD i os0).sg.length - x) x = b84 (os.getD i os0).sg (os.getD i os0).sg.length 0) (fun x => ⟨[(1, .ptr 1 2 0 0), (3, .val (.int .i64 x))], [osR os hd, .var [.val (.int .i64 (os.getD i os0).ph), .rsl 0 i 2 (os.getD i os0).sg.length (hd i)]]⟩) (fun x => (os.getD i os0).sg.length - x) (0) ?_ ?_ ?_
 ·exact ⟨by omega, rfl⟩
 ·exact LT [some 0, some 1]
 rintro k ⟨hk, hke⟩
 by_cases hkl : k < (os.getD i os0).sg.length
 ·rw [show (os.getD i os0).sg.length - k = ((os.getD i os0).sg.length - (k + 1)) + 1 by omega, b84] at hke
  have hsg := hsg k hkl
  generalize c48 (os.getD i os0).sg k = c at *
  by_cases hc : c = 0
  ·rw [if_neg (by omega)] at hke
   subst hc
   (repeat' (first
  | refine SP ?_
  | (apply a0a <;> intro hb <;> (try simp only [nS, nT, eq_self, reduceCtorEq] at hb) <;> (try (exfalso; omega)))
  | refine a0c ?_
  | refine CT [some 0] hsg ?_
  | (apply a0i (Subtype.mk (k + 1) ⟨by omega, hke⟩); (focus exact LT [some 0, some 1]); (all_goals (try (first | (simp only; omega)))))
  ))
  ·rw [if_pos hc] at hke
   rw [<- hke]
   (repeat' (first
  | refine SP ?_
  | (apply a0a <;> intro hb <;> (try simp only [nS, nT, eq_self, reduceCtorEq] at hb) <;> (try (exfalso; omega)))
  | refine a0c ?_
  | refine CT [some 0] hsg ?_
  | exact RT [some 0]
  ))
 ·obtain rfl : k = (os.getD i os0).sg.length := by omega
  rw [Nat.sub_self, b84] at hke
  rw [<- hke]
  (repeat' (first
  | refine SP ?_
  | (apply a0a <;> intro hb <;> (try simp only [nS, nT, eq_self, reduceCtorEq] at hb) <;> (try (exfalso; omega)))
  | refine a0c ?_
  | exact RT [some 0]
  ))
set_option maxHeartbeats 4000000 in
theorem b1u (s : Scn) (ok : SOk s) : Runs Tryz.prog 13 [scA s] (scB s) (Det (.val (.int .i64 (ckS s))) (scB s)) := by
 have hmx : maxLen = 9223372036854775807 := by decide
 have hck := b0e s.n s.l s.c0 ok.hl s.ns s.c1 ok.hn
 by_cases hc : ckE s.n s.l s.ns = 0
 rotate_left
 ·have e : ckS s = ckE s.n s.l s.ns := by unfold ckS; rw [if_pos hc]
  rw [e]
  generalize ckE s.n s.l s.ns = c at *
  refine Runs.mk a0k Tryz.call13 Tryz.func13 rfl Tryz.ntmps13 Tryz.results13 rfl ?_
  (repeat' (first
  | refine SP ?_
  | (apply a0a <;> intro hb <;> (try simp only [nS, nT, eq_self, reduceCtorEq] at hb) <;> (try (exfalso; omega)))
  | refine a0c ?_
  | refine CT [some 0, some 1] hck ?_
  | exact RT [some 0, some 1, some 2, some 3, some 4, some 5, some 6, some 7]
  ))
 rw [hc] at hck
 by_cases hL : s.os.length = s.ns.length /\ s.tr.length = s.ns.length /\ s.st.length = s.ns.length /\ s.dn.length = s.l.length /\ s.up.length = s.l.length
 rotate_left
 ·have e : ckS s = 7 := by unfold ckS; rw [if_neg (by omega), if_pos hL]
  rw [e]
  refine Runs.mk a0k Tryz.call13 Tryz.func13 rfl Tryz.ntmps13 Tryz.results13 rfl ?_
  (repeat' (first
  | refine SP ?_
  | (apply a0a <;> intro hb <;> (try simp only [nS, nT, eq_self, reduceCtorEq] at hb) <;> (try (exfalso; omega)))
  | refine a0q (by decide +kernel) ?_
  | refine a0c ?_
  | refine CT [some 0, some 1] hck ?_
  | exact RT [some 0, some 1, some 2, some 3, some 4, some 5, some 6, some 7]
  ))
 obtain ⟨L1, L2, L3, L4, L5⟩ := hL
 have e : ckS s = if b3y s s.os.length 0 ≠ 0 then b3y s s.os.length 0 else b6s s s.l.length 0 := by unfold ckS; rw [if_neg (by omega), if_neg (by omega)]
 rw [e]
 clear e
 have hl := ok.hl
 have hn := ok.hn
 refine Runs.mk a0k Tryz.call13 Tryz.func13 rfl Tryz.ntmps13 Tryz.results13 rfl ?_
 (repeat' (first
  | refine SP ?_
  | (apply a0a <;> intro hb <;> (try simp only [nS, nT, eq_self, reduceCtorEq] at hb) <;> (try (exfalso; omega)))
  | refine a0q (by decide +kernel) ?_
  | refine a0c ?_
  | refine CT [some 0, some 1] hck ?_
  ))
 refine a0p (σ := Nat) (fun x => x <= s.os.length /\ b3y s (s.os.length - x) x = b3y s s.os.length 0) (fun x => ⟨[(1, .ptr 8 8 0 0), (4, .val (.int .i64 s.ns.length)), (5, .val (.int .i64 s.l.length)), (6, .val (.int .i64 x))], [gB s.l, ndB s.ns, osB s.os s.hd, osR s.os s.hd, iB false s.dn, iB false s.up, blB s.tr, iB false s.st, .var (scV s)]⟩) (fun x => s.os.length - x) (0) ?_ ?_ ?_
 ·exact ⟨by omega, rfl⟩
 ·exact LT [some 0, some 1, some 2, some 3, some 4, some 5, some 6, some 7, some 8]
 rintro k ⟨hk, hke⟩
 by_cases hkl : k < s.os.length
 ·have hz : 0 + Int.toNat (k : Int) = k := by omega
  rw [show s.os.length - k = (s.os.length - (k + 1)) + 1 by omega, b3y] at hke
  have ho := a8h s.os s.hd (0 + Int.toNat (k : Int)) (by omega)
  rw [<- hz] at hke
  by_cases h1 : ckO (s.os.getD (0 + Int.toNat (k : Int)) os0) = 0
  ·rw [h1] at ho
   rw [if_neg (by omega)] at hke
   have hst := b6f (s.st.getD (0 + Int.toNat (k : Int)) 0)
   by_cases h2 : dly (s.st.getD (0 + Int.toNat (k : Int)) 0) = true
   ·rw [if_neg (by rw [h2]; simp)] at hke
    unfold dly at h2
    rw [h2] at hst
    rw [hz] at hke
    (repeat' (first
  | refine SP ?_
  | (apply a0a <;> intro hb <;> (try simp only [nS, nT, eq_self, reduceCtorEq] at hb) <;> (try (exfalso; omega)))
  | refine a0c ?_
  | refine OB ?_
  | refine CT [some 3] ho ?_
  | ((first | apply a0t (hst) ); exact AS)
  | (apply a0i (Subtype.mk (k + 1) ⟨by omega, hke⟩); (focus exact LT [some 0, some 1, some 2, some 3, some 4, some 5, some 6, some 7, some 8]); (all_goals (try (first | (simp only; omega)))))
  ))
   ·rw [if_pos (by simpa using h2)] at hke
    have h2 : dly (s.st.getD (0 + Int.toNat (k : Int)) 0) = false := by simpa using h2
    unfold dly at h2
    rw [h2] at hst
    rw [<- hke]
    (repeat' (first
  | refine SP ?_
  | (apply a0a <;> intro hb <;> (try simp only [nS, nT, eq_self, reduceCtorEq] at hb) <;> (try (exfalso; omega)))
  | refine a0c ?_
  | refine OB ?_
  | refine CT [some 3] ho ?_
  | ((first | apply a0t (hst) ); exact AS)
  | exact RT [some 0, some 1, some 2, some 3, some 4, some 5, some 6, some 7]
  ))
  ·rw [if_pos h1] at hke
   rw [<- hke, if_pos h1]
   generalize ckO (s.os.getD (0 + Int.toNat (k : Int)) os0) = c at *
   (repeat' (first
  | refine SP ?_
  | (apply a0a <;> intro hb <;> (try simp only [nS, nT, eq_self, reduceCtorEq] at hb) <;> (try (exfalso; omega)))
  | refine a0c ?_
  | refine OB ?_
  | refine CT [some 3] ho ?_
  | exact RT [some 0, some 1, some 2, some 3, some 4, some 5, some 6, some 7]
  ))
 ·obtain rfl : k = s.os.length := by omega
  rw [Nat.sub_self, b3y] at hke
  rw [<- hke, if_neg (by omega)]
  (repeat' (first
  | refine SP ?_
  | (apply a0a <;> intro hb <;> (try simp only [nS, nT, eq_self, reduceCtorEq] at hb) <;> (try (exfalso; omega)))
  | refine a0c ?_
  ))
  refine a0p (σ := Nat) (fun x => x <= s.l.length /\ b6s s (s.l.length - x) x = b6s s s.l.length 0) (fun x => ⟨[(1, .ptr 8 8 0 0), (5, .val (.int .i64 s.l.length)), (8, .val (.int .i64 x))], [gB s.l, ndB s.ns, osB s.os s.hd, osR s.os s.hd, iB false s.dn, iB false s.up, blB s.tr, iB false s.st, .var (scV s)]⟩) (fun x => s.l.length - x) (0) ?_ ?_ ?_
  ·exact ⟨by omega, rfl⟩
  ·exact LT [some 0, some 1, some 2, some 3, some 4, some 5, some 6, some 7, some 8]
  rintro k ⟨hk, hke⟩
  by_cases hkl : k < s.l.length
  ·have hz : 0 + Int.toNat (k : Int) = k := by omega
   rw [show s.l.length - k = (s.l.length - (k + 1)) + 1 by omega, b6s] at hke
   have hd := b6f (s.dn.getD (0 + Int.toNat (k : Int)) 0)
   have hu := b6f (s.up.getD (0 + Int.toNat (k : Int)) 0)
   rw [<- hz] at hke
   by_cases h1 : dly (s.dn.getD (0 + Int.toNat (k : Int)) 0) = true
   ·have h1' := h1
    unfold dly at h1'
    rw [h1'] at hd
    by_cases h2 : dly (s.up.getD (0 + Int.toNat (k : Int)) 0) = true
    ·rw [if_neg (by rw [h1, h2]; simp), hz] at hke
     unfold dly at h2
     rw [h2] at hu
     (repeat' (first
  | refine SP ?_
  | (apply a0a <;> intro hb <;> (try simp only [nS, nT, eq_self, reduceCtorEq] at hb) <;> (try (exfalso; omega)))
  | refine a0c ?_
  | refine OB ?_
  | ((first | apply a0t (hd) ); exact AS)
  | ((first | apply a0t (hu) ); exact AS)
  | (apply a0i (Subtype.mk (k + 1) ⟨by omega, hke⟩); (focus exact LT [some 0, some 1, some 2, some 3, some 4, some 5, some 6, some 7, some 8]); (all_goals (try (first | (simp only; omega)))))
  ))
    ·have h2 : dly (s.up.getD (0 + Int.toNat (k : Int)) 0) = false := by simpa using h2
     rw [if_pos (.inr h2)] at hke
     unfold dly at h2
     rw [h2] at hu
     rw [<- hke]
     (repeat' (first
  | refine SP ?_
  | (apply a0a <;> intro hb <;> (try simp only [nS, nT, eq_self, reduceCtorEq] at hb) <;> (try (exfalso; omega)))
  | refine a0c ?_
  | refine OB ?_
  | ((first | apply a0t (hd) ); exact AS)
  | ((first | apply a0t (hu) ); exact AS)
  | exact RT [some 0, some 1, some 2, some 3, some 4, some 5, some 6, some 7]
  ))
   ·have h1 : dly (s.dn.getD (0 + Int.toNat (k : Int)) 0) = false := by simpa using h1
    rw [if_pos (.inl h1)] at hke
    unfold dly at h1
    rw [h1] at hd
    rw [<- hke]
    (repeat' (first
  | refine SP ?_
  | (apply a0a <;> intro hb <;> (try simp only [nS, nT, eq_self, reduceCtorEq] at hb) <;> (try (exfalso; omega)))
  | refine a0c ?_
  | refine OB ?_
  | ((first | apply a0t (hd) ); exact AS)
  | exact RT [some 0, some 1, some 2, some 3, some 4, some 5, some 6, some 7]
  ))
  ·obtain rfl : k = s.l.length := by omega
   rw [Nat.sub_self, b6s] at hke
   rw [<- hke]
   (repeat' (first
  | refine SP ?_
  | (apply a0a <;> intro hb <;> (try simp only [nS, nT, eq_self, reduceCtorEq] at hb) <;> (try (exfalso; omega)))
  | refine a0c ?_
  | exact RT [some 0, some 1, some 2, some 3, some 4, some 5, some 6, some 7]
  ))
end Go.Vx.L58

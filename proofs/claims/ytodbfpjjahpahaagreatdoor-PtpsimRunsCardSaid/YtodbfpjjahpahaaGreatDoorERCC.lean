/- Lemmas of a small executor for the model, and contracts of functions, used for the law that this claim proves. No condition. -/
import Derived.Test.YtodbfpjjahpahaaGreatDoorEW3
import Derived.Test.YtodbfpjjahpahaaGreatDoorERCB
import Derived.Test.YtodbfpjjahpahaaGreatDoorEPC
import Derived.Test.YtodbfpjjahpahaaGreatDoorEP14
set_option linter.unusedSimpArgs false
set_option linter.unusedVariables false
set_option maxRecDepth 100000
namespace Go.Vx.L58
open Go Go.Proofs Go.Vx.L58.PT
def b8u (s : Scn) (N D : List Int) (t0 : Int) (x : Nat) : Int × Int :=
 if x < D.length then a3d s N D t0 x else (a66 s N D t0, b1f s N D t0)
structure DnOK (s : Scn) (N D P L : List Int) (o : Nat) : Prop where
 al : s.l.length <= 1000
 dn : s.dn.length = s.l.length
 up : s.up.length = s.l.length
 ne : ∀ i, i < s.l.length -> (s.l.getD i ed0).a ≠ (s.l.getD i ed0).b
 tr : s.tr.length = s.os.length
 pl : P.length = s.os.length
 ll : o + D.length + 1 <= L.length
 l24 : L.length <= 24
set_option maxHeartbeats 8000000 in
theorem c5i (s : Scn) (hs : CkOK s) {N D P L : List Int} {o : Nat} (hw : WyOK s N D) (hd : DnOK s N D P L o) (m : Mg) (hm : MgOK m) (hc : m.corr = 0) (t0 : Int) (h0 : 0 <= t0 /\ t0 <= 600000000000000)
  (hst : ∀ x, x < D.length -> ∃ y : Nat, y < s.os.length /\ L.getD (o + (x + 1)) 0 = (y : Int) /\ N.getD (x + 1) 0 = (y : Int) /\ (upF s y (P.getD y 0)).t = D.getD x 0)
  (htr : ∀ x, x + 1 < D.length -> s.tr.getD (N.getD (x + 1) 0).toNat false = true) :
  Runs Tryz.prog 57 [scA s, .sl 8 1 0 P.length none, .sl 9 1 o (D.length + 1) none, mgA m, .val (.int .i64 t0)] [gB s.l, ndB s.ns, osB s.os s.hd, osR s.os s.hd, iB false s.dn, iB false s.up, blB s.tr, iB false s.st, .arr false 3 1 P.length (a2v P), .arr false 3 1 L.length (a2v L)]
   (Det (.tup [mgA (a84 m (b1f s N D t0)), .val (.int .i64 (a66 s N D t0)), .sb true]) [gB s.l, ndB s.ns, osB s.os s.hd, osR s.os s.hd, iB false s.dn, iB false s.up, blB s.tr, iB false s.st, .arr false 3 1 P.length (a2v P), .arr false 3 1 L.length (a2v L)]) := by
 have hmx : maxLen = 9223372036854775807 := by decide
 have hbd := b1n hs hw h0
 have hsl := hs.sl
 have hol := hs.ol
 have hstb := hs.st
 obtain ⟨hlen, l24, l1, hnd, hdl⟩ := hw
 obtain ⟨k1, k2, k3, k4, k5, k6, k7, k8⟩ := hd
 have hq : ∀ k, a3d s N D t0 (k + 1) = ((a3d s N D t0 k).1 + D.getD k 0 + s.st.getD (N.getD (k + 1) 0).toNat 0,
   (a3d s N D t0 k).2 + usF (rdF (s.os.getD (N.getD (k + 1) 0).toNat os0) ((a3d s N D t0 k).1 + D.getD k 0 + s.st.getD (N.getD (k + 1) 0).toNat 0) - rdF (s.os.getD (N.getD (k + 1) 0).toNat os0) ((a3d s N D t0 k).1 + D.getD k 0))
    (rtF (s.os.getD (N.getD (k + 1) 0).toNat os0) ((a3d s N D t0 k).1 + D.getD k 0))) := fun _ => rfl
 have hF0 : b8u s N D t0 0 = (t0, 0) := by unfold b8u; rw [if_pos (by omega)]; rfl
 have hF1 : ∀ x, x < D.length -> b8u s N D t0 x = a3d s N D t0 x := fun x h => by unfold b8u; rw [if_pos h]
 have hF2 : b8u s N D t0 D.length = (a66 s N D t0, b1f s N D t0) := by unfold b8u; rw [if_neg (by omega)]
 have hT : a66 s N D t0 = (a3d s N D t0 (D.length - 1)).1 + D.getD (D.length - 1) 0 := rfl
 have hC : b1f s N D t0 = (a3d s N D t0 (D.length - 1)).2 := rfl
 generalize b8u s N D t0 = F at *
 generalize a66 s N D t0 = T at *
 generalize b1f s N D t0 = C at *
 generalize a3d s N D t0 = Q at *
 have hde := fun x hx => b46 s k1 k2 k3 k4 P x hx true
 simp only [if_true] at hde
 refine Runs.mk a0k Tryz.call57 Tryz.func57 rfl Tryz.ntmps57 Tryz.results57 rfl ?_
 (repeat' (first
  | refine SP ?_
  | refine a0c ?_
  ))
 refine a0p (σ := Nat) (fun x => x <= D.length) (fun x => ⟨[(1, .sl 8 1 0 P.length none), (2, .sl 9 1 o (D.length + 1) none), (4, .val (.int .i64 (F x).1)), (5, .ptr 10 8 0 0), (8, .ptr 11 21 0 0), (10, .ptr 12 21 0 0), (13, .sb true), (14, .val (.int .i64 ((x : Int) + 1)))], [gB s.l, ndB s.ns, osB s.os s.hd, osR s.os s.hd, iB false s.dn, iB false s.up, blB s.tr, iB false s.st, .arr false 3 1 P.length (a2v P), .arr false 3 1 L.length (a2v L), .var (scV s), .var (mgL (a84 m (F x).2)), .var [.dead, .dead, .dead, .dead, .dead, .dead, .dead, .dead, .dead, .dead, .dead, .dead, .dead, .dead, .dead, .dead, .dead, .dead, .dead, .dead, .dead]]⟩) (fun x => D.length - x) (0) ?_ ?_ ?_
 ·omega
 ·rw [hF0]
  exact LT [some 0, some 1, some 2, some 3, some 4, some 5, some 6, some 7, some 8, some 9, some 10, some 11, some 12]
 rintro x hx
 by_cases hl : x < D.length
 ·have hb := hbd x hl
  have hdx := hdl x hl
  obtain ⟨y, hy, f1, f2, f3⟩ := hst x hl
  have hd1 := hde y (by omega)
  rw [f3] at hd1
  have hix : o + Int.toNat ((x : Int) + 1) = o + (x + 1) := by omega
  rw [<- f1, <- hix] at hd1
  have f1' : L.getD (o + Int.toNat ((x : Int) + 1)) 0 = (y : Int) := by rw [hix]; exact f1
  have eA : IntKind.i64.wrap ((Q x).1 + D.getD x 0) = (Q x).1 + D.getD x 0 := by rw [IntKind.wrap_i64]; omega
  have eK : IntKind.i64.wrap ((x : Int) + 1 + 1) = (x : Int) + 2 := by rw [IntKind.wrap_i64]; omega
  have hFx := hF1 x hl
  rw [hFx]
  by_cases hl2 : x + 1 < D.length
  ·have hFy := hF1 (x + 1) hl2
   have htx := htr x hl2
   have hqx := hq x
   rw [f2, Int.toNat_natCast] at htx hqx
   have hsy := hstb y hy
   have hbn := hbd (x + 1) hl2
   have hmk : MgOK (a84 m (Q x).2) := ⟨hm.seq, hm.sec, hm.nano, hm.rp, hm.kind⟩
   have hp := b8i s hs k5 (a84 m (Q x).2) hmk y hy htx ((Q x).1 + D.getD x 0) (by omega) (by show 0 <= m.corr + (Q x).2 * 65536; omega) (by show m.corr + (Q x).2 * 65536 <= _; omega)
   generalize usF (rdF (s.os.getD y os0) ((Q x).1 + D.getD x 0 + s.st.getD y 0) - rdF (s.os.getD y os0) ((Q x).1 + D.getD x 0)) (rtF (s.os.getD y os0) ((Q x).1 + D.getD x 0)) = u at *
   have hzy : 0 + (L.getD (o + Int.toNat ((x : Int) + 1)) 0).toNat = y := by rw [hix, f1]; omega
   have eS : s.st.getD (0 + (L.getD (o + Int.toNat ((x : Int) + 1)) 0).toNat) 0 = s.st.getD y 0 := by rw [hzy]
   have hz9 : 0 + Int.toNat (y : Int) = y := by omega
   rw [<- f1, <- hix, <- eA] at hp
   (repeat' (first
  | refine SP ?_
  | (with_reducible refine a01 ?_)
  | (apply a0a <;> intro hb <;> (try simp only [nS, nT, eq_self, reduceCtorEq] at hb) <;> (try (exfalso; omega)))
  | refine a0q (by decide +kernel) ?_
  | refine a0c ?_
  | refine OB ?_
  | ((first | apply a0m [some 0, some 1, some 2, some 3, some 4, some 5, some 6, some 7, some 8] (hd1)); exact AS; (any_goals (first | (apply a0s; rfl) )))
  | ((first | apply a0m [some 0, some 1, some 2, some 3, some 4, some 5, some 6, some 7] (hp)); exact AS; (any_goals (first | (apply a0s; rfl) )))
  | (apply a0i (Subtype.mk (x + 1) (by first | omega | (simp only; omega))); (focus ((simp only [hFy, hqx]); exact LT [some 0, some 1, some 2, some 3, some 4, some 5, some 6, some 7, some 8, some 9, some 10, some 11, some 12])); (all_goals (try (first | (simp only; omega)))))
  ))
  ·have hxe : x + 1 = D.length := by omega
   have hFy : F (x + 1) = (T, C) := by rw [hxe]; exact hF2
   rw [<- hxe, show x + 1 - 1 = x by omega] at hT hC
   (repeat' (first
  | refine SP ?_
  | (apply a0a <;> intro hb <;> (try simp only [nS, nT, eq_self, reduceCtorEq] at hb) <;> (try (exfalso; omega)))
  | refine a0q (by decide +kernel) ?_
  | refine a0c ?_
  | refine OB ?_
  | ((first | apply a0m [some 0, some 1, some 2, some 3, some 4, some 5, some 6, some 7, some 8] (hd1)); exact AS; (any_goals (first | (apply a0s; rfl) )))
  | (apply a0i (Subtype.mk (x + 1) (by first | omega | (simp only; omega))); (focus ((simp only [hFy, hT, hC]); exact LT [some 0, some 1, some 2, some 3, some 4, some 5, some 6, some 7, some 8, some 9, some 10, some 11, some 12])); (all_goals (try (first | (simp only; omega)))))
  ))
 ·obtain rfl : x = D.length := by omega
  rw [hF2]
  (repeat' (first
  | refine SP ?_
  | (apply a0a <;> intro hb <;> (try simp only [nS, nT, eq_self, reduceCtorEq] at hb) <;> (try (exfalso; omega)))
  | refine a0c ?_
  | exact RT [some 0, some 1, some 2, some 3, some 4, some 5, some 6, some 7, some 8, some 9]
  ))
end Go.Vx.L58
set_option maxRecDepth 100000
namespace Go.Vx.L58
open Go Go.Proofs Go.Vx.L58.PT
set_option maxHeartbeats 8000000 in
theorem d2e (s : Scn) (hs : CkOK s) {N D P L : List Int} {o : Nat} (hw : WyOK s N D) (hd : DnOK s N D P L o) (m : Mg) (hm : MgOK m) (hc : m.corr = 0) (t0 : Int) (h0 : 0 <= t0 /\ t0 <= 600000000000000)
  (hst : ∀ x, x < D.length -> ∃ y : Nat, y < s.os.length /\ L.getD (o + (D.length - x)) 0 = (y : Int) /\ (upF s y (P.getD y 0)).b = D.getD x 0)
  (htr : ∀ x, x + 1 < D.length -> ∃ z : Nat, z < s.os.length /\ L.getD (o + (D.length - (x + 1))) 0 = (z : Int) /\ N.getD (x + 1) 0 = (z : Int) /\ s.tr.getD z false = true) :
  Runs Tryz.prog 58 [scA s, .sl 8 1 0 P.length none, .sl 9 1 o (D.length + 1) none, mgA m, .val (.int .i64 t0)] [gB s.l, ndB s.ns, osB s.os s.hd, osR s.os s.hd, iB false s.dn, iB false s.up, blB s.tr, iB false s.st, .arr false 3 1 P.length (a2v P), .arr false 3 1 L.length (a2v L)]
   (Det (.tup [mgA (a84 m (b1f s N D t0)), .val (.int .i64 (a66 s N D t0)), .sb true]) [gB s.l, ndB s.ns, osB s.os s.hd, osR s.os s.hd, iB false s.dn, iB false s.up, blB s.tr, iB false s.st, .arr false 3 1 P.length (a2v P), .arr false 3 1 L.length (a2v L)]) := by
 have hmx : maxLen = 9223372036854775807 := by decide
 have hbd := b1n hs hw h0
 have hsl := hs.sl
 have hol := hs.ol
 have hstb := hs.st
 obtain ⟨hlen, l24, l1, hnd, hdl⟩ := hw
 obtain ⟨k1, k2, k3, k4, k5, k6, k7, k8⟩ := hd
 have hq : ∀ k, a3d s N D t0 (k + 1) = ((a3d s N D t0 k).1 + D.getD k 0 + s.st.getD (N.getD (k + 1) 0).toNat 0,
   (a3d s N D t0 k).2 + usF (rdF (s.os.getD (N.getD (k + 1) 0).toNat os0) ((a3d s N D t0 k).1 + D.getD k 0 + s.st.getD (N.getD (k + 1) 0).toNat 0) - rdF (s.os.getD (N.getD (k + 1) 0).toNat os0) ((a3d s N D t0 k).1 + D.getD k 0))
    (rtF (s.os.getD (N.getD (k + 1) 0).toNat os0) ((a3d s N D t0 k).1 + D.getD k 0))) := fun _ => rfl
 have hF0 : b8u s N D t0 0 = (t0, 0) := by unfold b8u; rw [if_pos (by omega)]; rfl
 have hF1 : ∀ x, x < D.length -> b8u s N D t0 x = a3d s N D t0 x := fun x h => by unfold b8u; rw [if_pos h]
 have hF2 : b8u s N D t0 D.length = (a66 s N D t0, b1f s N D t0) := by unfold b8u; rw [if_neg (by omega)]
 have hT : a66 s N D t0 = (a3d s N D t0 (D.length - 1)).1 + D.getD (D.length - 1) 0 := rfl
 have hC : b1f s N D t0 = (a3d s N D t0 (D.length - 1)).2 := rfl
 generalize b8u s N D t0 = F at *
 generalize a66 s N D t0 = T at *
 generalize b1f s N D t0 = C at *
 generalize a3d s N D t0 = Q at *
 have hde := fun x hx => b46 s k1 k2 k3 k4 P x hx false
 simp only [Bool.false_eq_true, if_false] at hde
 refine Runs.mk a0k Tryz.call58 Tryz.func58 rfl Tryz.ntmps58 Tryz.results58 rfl ?_
 (repeat' (first
  | refine SP ?_
  | refine a0c ?_
  ))
 refine a0p (σ := Nat) (fun x => x <= D.length) (fun x => ⟨[(1, .sl 8 1 0 P.length none), (2, .sl 9 1 o (D.length + 1) none), (4, .val (.int .i64 (F x).1)), (5, .ptr 10 8 0 0), (8, .ptr 11 21 0 0), (10, .ptr 12 21 0 0), (13, .sb true), (14, .val (.int .i64 ((D.length : Int) - x)))], [gB s.l, ndB s.ns, osB s.os s.hd, osR s.os s.hd, iB false s.dn, iB false s.up, blB s.tr, iB false s.st, .arr false 3 1 P.length (a2v P), .arr false 3 1 L.length (a2v L), .var (scV s), .var (mgL (a84 m (F x).2)), .var [.dead, .dead, .dead, .dead, .dead, .dead, .dead, .dead, .dead, .dead, .dead, .dead, .dead, .dead, .dead, .dead, .dead, .dead, .dead, .dead, .dead]]⟩) (fun x => D.length - x) (0) ?_ ?_ ?_
 ·omega
 ·rw [hF0]
  exact LT [some 0, some 1, some 2, some 3, some 4, some 5, some 6, some 7, some 8, some 9, some 10, some 11, some 12]
 rintro x hx
 by_cases hl : x < D.length
 ·have hb := hbd x hl
  have hdx := hdl x hl
  obtain ⟨y, hy, f1, f3⟩ := hst x hl
  have hd1 := hde y (by omega)
  rw [f3] at hd1
  have hix : o + Int.toNat ((D.length : Int) - x) = o + (D.length - x) := by omega
  rw [<- f1, <- hix] at hd1
  have f1' : L.getD (o + Int.toNat ((D.length : Int) - x)) 0 = (y : Int) := by rw [hix]; exact f1
  have eA : IntKind.i64.wrap ((Q x).1 + D.getD x 0) = (Q x).1 + D.getD x 0 := by rw [IntKind.wrap_i64]; omega
  have eK : IntKind.i64.wrap ((D.length : Int) - x - 1) = (D.length : Int) - x - 1 := by rw [IntKind.wrap_i64]; omega
  have hFx := hF1 x hl
  rw [hFx]
  by_cases hl2 : x + 1 < D.length
  ·have hFy := hF1 (x + 1) hl2
   obtain ⟨z, hz, g1, g2, htx⟩ := htr x hl2
   have hqx := hq x
   rw [g2, Int.toNat_natCast] at hqx
   have hsy := hstb z hz
   have hbn := hbd (x + 1) hl2
   have hmk : MgOK (a84 m (Q x).2) := ⟨hm.seq, hm.sec, hm.nano, hm.rp, hm.kind⟩
   have hp := b8i s hs k5 (a84 m (Q x).2) hmk z hz htx ((Q x).1 + D.getD x 0) (by omega) (by show 0 <= m.corr + (Q x).2 * 65536; omega) (by show m.corr + (Q x).2 * 65536 <= _; omega)
   generalize usF (rdF (s.os.getD z os0) ((Q x).1 + D.getD x 0 + s.st.getD z 0) - rdF (s.os.getD z os0) ((Q x).1 + D.getD x 0)) (rtF (s.os.getD z os0) ((Q x).1 + D.getD x 0)) = u at *
   have hiz : o + Int.toNat (IntKind.i64.wrap ((D.length : Int) - x - 1)) = o + (D.length - (x + 1)) := by rw [eK]; omega
   have g1' : L.getD (o + Int.toNat (IntKind.i64.wrap ((D.length : Int) - x - 1))) 0 = (z : Int) := by rw [hiz]; exact g1
   have hzy : 0 + (L.getD (o + Int.toNat (IntKind.i64.wrap ((D.length : Int) - x - 1))) 0).toNat = z := by rw [g1']; omega
   have eS : s.st.getD (0 + (L.getD (o + Int.toNat (IntKind.i64.wrap ((D.length : Int) - x - 1))) 0).toNat) 0 = s.st.getD z 0 := by rw [hzy]
   rw [<- g1', <- eA] at hp
   (repeat' (first
  | refine SP ?_
  | (with_reducible refine a01 ?_)
  | (apply a0a <;> intro hb <;> (try simp only [nS, nT, eq_self, reduceCtorEq] at hb) <;> (try (exfalso; omega)))
  | refine a0q (by decide +kernel) ?_
  | refine a0c ?_
  | refine OB ?_
  | ((first | apply a0m [some 0, some 1, some 2, some 3, some 4, some 5, some 6, some 7, some 8] (hd1)); exact AS; (any_goals (first | (apply a0s; rfl) )))
  | ((first | apply a0m [some 0, some 1, some 2, some 3, some 4, some 5, some 6, some 7] (hp)); exact AS; (any_goals (first | (apply a0s; rfl) )))
  | (apply a0i (Subtype.mk (x + 1) (by first | omega | (simp only; omega))); (focus ((simp only [hFy, hqx]); apply a04 [some 0, some 1, some 2, some 3, some 4, some 5, some 6, some 7, some 8, some 9, some 10, some 11, some 12]; (focus (iterate 2 (all_goals (repeat' (first | exact a2z | exact a1f rfl rfl rfl rfl | exact a17 rfl rfl rfl rfl | exact a0g | exact trivial | refine SP ?_ | refine And.intro ?_ ?_ | refine a0d ?_ ?_ | refine a09 ?_ | exact a0z rfl rfl | exact a0r rfl rfl rfl | exact a0b _ _ | exact a0w rfl | exact a0j rfl rfl rfl | ((refine a0f ?_); first | with_reducible rfl | omega | ((try simp only [wS]); omega) | rfl) | refine a0f ?_ ))))); any_goals (apply a0e; rfl))); (all_goals (try (first | (simp only; omega)))))
  ))
   all_goals (rw [eA, eS, IntKind.wrap_i64]; omega)
  ·have hxe : x + 1 = D.length := by omega
   have hFy : F (x + 1) = (T, C) := by rw [hxe]; exact hF2
   rw [<- hxe, show x + 1 - 1 = x by omega] at hT hC
   (repeat' (first
  | refine SP ?_
  | (apply a0a <;> intro hb <;> (try simp only [nS, nT, eq_self, reduceCtorEq] at hb) <;> (try (exfalso; omega)))
  | refine a0q (by decide +kernel) ?_
  | refine a0c ?_
  | refine OB ?_
  | ((first | apply a0m [some 0, some 1, some 2, some 3, some 4, some 5, some 6, some 7, some 8] (hd1)); exact AS; (any_goals (first | (apply a0s; rfl) )))
  | (apply a0i (Subtype.mk (x + 1) (by first | omega | (simp only; omega))); (focus ((simp only [hFy, hT, hC]); exact LT [some 0, some 1, some 2, some 3, some 4, some 5, some 6, some 7, some 8, some 9, some 10, some 11, some 12])); (all_goals (try (first | (simp only; omega)))))
  ))
 ·obtain rfl : x = D.length := by omega
  rw [hF2]
  (repeat' (first
  | refine SP ?_
  | (apply a0a <;> intro hb <;> (try simp only [nS, nT, eq_self, reduceCtorEq] at hb) <;> (try (exfalso; omega)))
  | refine a0c ?_
  | exact RT [some 0, some 1, some 2, some 3, some 4, some 5, some 6, some 7, some 8, some 9]
  ))
end Go.Vx.L58
set_option maxRecDepth 100000
namespace Go.Vx.L58
open Go Go.Proofs Go.Vx.L58.PT
theorem d2r (tr : List Bool) (U : List Int) : ∀ f e j, e <= j -> j < wE tr U f e -> tr.getD (U.getD j 0).toNat false = true
 | 0, e, j, h1, h2 => by simp only [wE] at h2; omega
 | f + 1, e, j, h1, h2 => by
  rw [wE] at h2
  split at h2
  ·rename_i h
   rcases Nat.lt_or_ge e j with h3 | h3
   ·exact d2r tr U f (e + 1) j h3 h2
   ·obtain rfl : j = e := by omega
    exact h.2
  ·omega
theorem d2g {tr : List Bool} {U : List Int} {j : Nat} (h1 : 1 <= j) (h2 : j < wM tr U) : tr.getD (U.getD j 0).toNat false = true :=
 d2r tr U (U.length - 1) 1 j h1 (by unfold wM at h2; omega)
theorem b1k (s : Scn) (ok : SOk s) (hc : ckS s = 0) {v : Nat} (hv : v < s.ns.length) (hU : 2 <= (upL s v).length) :
  1 <= wyM s v /\ msM (wyS s v) < s.os.length /\ (upL s v).reverse.getD ((upL s v).length - 1 - wyM s v) 0 = (msM (wyS s v) : Int) /\ msN (wyS s v) = v /\
  DnOK s (wyS s v).N (wyS s v).T (ptS s) (upL s v).reverse ((upL s v).length - 1 - wyM s v) /\
  DnOK s (wyS s v).N.reverse (wyS s v).B.reverse (ptS s) (upL s v).reverse ((upL s v).length - 1 - wyM s v) /\
  (∀ x, x < (wyS s v).T.length -> ∃ y : Nat, y < s.os.length /\ (upL s v).reverse.getD ((upL s v).length - 1 - wyM s v + (x + 1)) 0 = (y : Int) /\ (wyS s v).N.getD (x + 1) 0 = (y : Int) /\ (upF s y ((ptS s).getD y 0)).t = (wyS s v).T.getD x 0) /\
  (∀ x, x + 1 < (wyS s v).T.length -> s.tr.getD ((wyS s v).N.getD (x + 1) 0).toNat false = true) /\
  (∀ x, x < (wyS s v).B.reverse.length -> ∃ y : Nat, y < s.os.length /\ (upL s v).reverse.getD ((upL s v).length - 1 - wyM s v + ((wyS s v).B.reverse.length - x)) 0 = (y : Int) /\ (upF s y ((ptS s).getD y 0)).b = (wyS s v).B.reverse.getD x 0) /\
  (∀ x, x + 1 < (wyS s v).B.reverse.length -> ∃ z : Nat, z < s.os.length /\ (upL s v).reverse.getD ((upL s v).length - 1 - wyM s v + ((wyS s v).B.reverse.length - (x + 1))) 0 = (z : Int) /\ (wyS s v).N.reverse.getD (x + 1) 0 = (z : Int) /\ s.tr.getD z false = true) := by
 have hpg : ∀ y, y < s.ns.length -> (ptS s).getD y 0 = ptM s y := b35 s s.ns.length
 have hpl : (ptS s).length = s.ns.length := b1c s _
 obtain ⟨_, ⟨L1, L2, L3, L4, L5⟩, _, _⟩ := a2l hc
 obtain ⟨hN, hn24, hl64, _⟩ := a16 ok hc
 obtain ⟨m', _, _, _, hed⟩ := a4d hN.parts.1
 have hne : ∀ i, i < s.l.length -> (s.l.getD i ed0).a ≠ (s.l.getD i ed0).b := fun i hi => (hed (s.l.getD i ed0) (by
  rw [List.getD_eq_getElem?_getD, List.getElem?_eq_getElem hi]; exact List.getElem_mem hi)).2.2
 have hb := a8w ok hc hv
 have hMb := b1x ok hc hv
 have hM1 : 1 <= wyM s v := by
  have := c5x s.tr (upL s v) ((upL s v).length - 1) 1
  unfold wyM wM
  omega
 have hhd : (upL s v).getD 0 0 = (v : Int) := b4z ..
 obtain ⟨n1, n2, n3⟩ := b2h s v
 have hN1 : ∀ x, x <= wyM s v -> (wyS s v).N.getD x 0 = (upL s v).getD (wyM s v - x) 0 := fun x hx => a62 (fun i => (upL s v).getD i 0) (wyM s v) (wyM s v + 1) x (by omega)
 have hN2 : ∀ x, x <= wyM s v -> (wyS s v).N.reverse.getD x 0 = (upL s v).getD x 0 := fun x hx => by
  rw [a5a _ _ (by omega), n1, hN1 _ (by omega), show wyM s v - (wyM s v + 1 - 1 - x) = x by omega]
 have hU2 : ∀ x, x <= wyM s v -> (upL s v).reverse.getD ((upL s v).length - 1 - wyM s v + x) 0 = (upL s v).getD (wyM s v - x) 0 := fun x hx => by
  rw [a5a _ _ (by omega), show (upL s v).length - 1 - ((upL s v).length - 1 - wyM s v + x) = wyM s v - x by omega]
 have hmm := hb.2 (wyM s v) (by omega)
 have hM0 : (msM (wyS s v) : Int) = (upL s v).getD (wyM s v) 0 := by
  unfold msM
  rw [hN1 0 (by omega), Nat.sub_zero]; omega
 have hD1 : DnOK s (wyS s v).N (wyS s v).T (ptS s) (upL s v).reverse ((upL s v).length - 1 - wyM s v) :=
  ⟨by omega, by omega, by omega, hne, by omega, by omega, by rw [n2, List.length_reverse]; omega, by rw [List.length_reverse]; omega⟩
 have hD2 : DnOK s (wyS s v).N.reverse (wyS s v).B.reverse (ptS s) (upL s v).reverse ((upL s v).length - 1 - wyM s v) :=
  ⟨by omega, by omega, by omega, hne, by omega, by omega, by rw [List.length_reverse, n3, List.length_reverse]; omega, by rw [List.length_reverse]; omega⟩
 refine ⟨hM1, by omega, ?_, ?_, hD1, hD2, fun x hx => ?_, fun x hx => ?_, fun x hx => ?_, fun x hx => ?_⟩
 ·rw [hM0, show (upL s v).length - 1 - wyM s v = (upL s v).length - 1 - wyM s v + 0 by omega, hU2 0 (by omega), Nat.sub_zero]
 ·unfold msN
  rw [n1, hN1 _ (by omega), show wyM s v - (wyM s v + 1 - 1) = 0 by omega, hhd]; omega
 ·rw [n2] at hx
  obtain ⟨_, y, hy, f1, f2, f3⟩ := b5n s ok hc hv hU (x := x) hx
  exact ⟨y, by omega, f1, by rw [hN1 _ (by omega), <- hU2 _ (by omega)]; exact f1, by rw [hpg y hy]; exact f2⟩
 ·rw [n2] at hx
  rw [hN1 _ (by omega)]
  exact d2g (by omega) (by show _ < wyM s v; omega)
 ·rw [List.length_reverse, n3] at hx
  obtain ⟨_, y, hy, f1, f2, f3⟩ := b5n s ok hc hv hU (x := wyM s v - 1 - x) (by omega)
  rw [show wyM s v - 1 - x + 1 = wyM s v - x by omega] at f1
  refine ⟨y, by omega, by rw [List.length_reverse, n3]; exact f1, ?_⟩
  rw [hpg y hy, a5a _ _ (by omega), n3]; exact f3
 ·rw [List.length_reverse, n3] at hx
  have hz := hb.2 (x + 1) (by omega)
  have ht := d2g (tr := s.tr) (U := upL s v) (j := x + 1) (by omega) (by show _ < wyM s v; omega)
  obtain ⟨z, e⟩ := Int.eq_ofNat_of_zero_le hz.1
  rw [e] at hz ht
  rw [Int.toNat_natCast] at ht
  refine ⟨z, by omega, ?_, ?_, ht⟩
  ·rw [List.length_reverse, n3, hU2 _ (by omega), show wyM s v - (wyM s v - (x + 1)) = x + 1 by omega]; exact e
  ·rw [hN2 _ (by omega)]; exact e
end Go.Vx.L58

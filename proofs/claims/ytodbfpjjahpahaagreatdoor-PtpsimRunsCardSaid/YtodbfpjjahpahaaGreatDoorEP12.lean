/- Lemmas of a small executor for the model, and contracts of functions, used for the law that this claim proves. No condition. -/
import Derived.Test.YtodbfpjjahpahaaGreatDoorEW3
import Derived.Test.YtodbfpjjahpahaaGreatDoorEPB
import Derived.Test.YtodbfpjjahpahaaGreatDoorEPL1
import Derived.Test.YtodbfpjjahpahaaGreatDoorEPS1
set_option linter.unusedSimpArgs false
set_option linter.unusedVariables false
set_option maxRecDepth 100000
namespace Go.Vx.L58
open Go Go.Proofs Go.Vx.L58.PT
structure CkOK (s : Scn) : Prop where
 os : ∀ x, x < s.os.length -> ckO (s.os.getD x os0) = 0
 st : ∀ x, x < s.os.length -> 0 <= s.st.getD x 0 /\ s.st.getD x 0 <= 10000000000
 sl : s.st.length = s.os.length
 ol : s.os.length <= 24
def a3d (s : Scn) (N D : List Int) (t0 : Int) : Nat -> Int × Int
 | 0 => (t0, 0)
 | k + 1 => ((a3d s N D t0 k).1 + D.getD k 0 + s.st.getD (N.getD (k + 1) 0).toNat 0,
   (a3d s N D t0 k).2 + usF (rdF (s.os.getD (N.getD (k + 1) 0).toNat os0) ((a3d s N D t0 k).1 + D.getD k 0 + s.st.getD (N.getD (k + 1) 0).toNat 0) - rdF (s.os.getD (N.getD (k + 1) 0).toNat os0) ((a3d s N D t0 k).1 + D.getD k 0))
    (rtF (s.os.getD (N.getD (k + 1) 0).toNat os0) ((a3d s N D t0 k).1 + D.getD k 0)))
structure WyOK (s : Scn) (N D : List Int) : Prop where
 len : N.length = D.length + 1
 l24 : D.length <= 24
 l1 : 1 <= D.length
 nd : ∀ i, i < N.length -> 0 <= N.getD i 0 /\ N.getD i 0 < s.os.length
 dl : ∀ i, i < D.length -> 0 <= D.getD i 0 /\ D.getD i 0 <= 10000000000
theorem b1n {s : Scn} (hs : CkOK s) {N D : List Int} (hw : WyOK s N D) {t0 : Int} (h0 : 0 <= t0 /\ t0 <= 600000000000000) : ∀ k, k < D.length ->
  (t0 <= (a3d s N D t0 k).1 /\ (a3d s N D t0 k).1 <= t0 + 20000000000 * k) /\ (0 <= (a3d s N D t0 k).2 /\ (a3d s N D t0 k).2 <= 34359738368 * k)
 | 0, _ => by simp [a3d]
 | k + 1, hk => by
  have ih := b1n hs hw h0 k (by omega)
  have hl := hw.l24
  have hn := hw.nd (k + 1) (by have := hw.len; omega)
  have hd := hw.dl k (by omega)
  have ho := hs.os (N.getD (k + 1) 0).toNat (by omega)
  have hst := hs.st (N.getD (k + 1) 0).toNat (by omega)
  have hr := a9o ho (t := (a3d s N D t0 k).1 + D.getD k 0) (t' := (a3d s N D t0 k).1 + D.getD k 0 + s.st.getD (N.getD (k + 1) 0).toNat 0) (by omega) (by omega) (by omega)
  have hr2 := hr.2 (by omega)
  have hrt := b4n (a5v ho).1 ((a3d s N D t0 k).1 + D.getD k 0) _ (Nat.le_refl _)
  have hu := c3d (n := rdF (s.os.getD (N.getD (k + 1) 0).toNat os0) ((a3d s N D t0 k).1 + D.getD k 0 + s.st.getD (N.getD (k + 1) 0).toNat 0) - rdF (s.os.getD (N.getD (k + 1) 0).toNat os0) ((a3d s N D t0 k).1 + D.getD k 0))
   (p := rtF (s.os.getD (N.getD (k + 1) 0).toNat os0) ((a3d s N D t0 k).1 + D.getD k 0)) (by omega) (by omega) hrt
  rw [a3d]
  simp only
  omega
def a66 (s : Scn) (N D : List Int) (t0 : Int) : Int := (a3d s N D t0 (D.length - 1)).1 + D.getD (D.length - 1) 0
def b1f (s : Scn) (N D : List Int) (t0 : Int) : Int := (a3d s N D t0 (D.length - 1)).2
theorem b2m {s : Scn} (hs : CkOK s) {N D : List Int} (hw : WyOK s N D) {t0 : Int} (h0 : 0 <= t0 /\ t0 <= 600000000000000) :
  (t0 <= a66 s N D t0 /\ a66 s N D t0 <= t0 + 500000000000) /\ (0 <= b1f s N D t0 /\ b1f s N D t0 <= 824633720832) := by
 have l1 := hw.l1
 have l24 := hw.l24
 have h := b1n hs hw h0 (D.length - 1) (by omega)
 have hd := hw.dl (D.length - 1) (by omega)
 unfold a66 b1f
 omega
set_option maxHeartbeats 8000000 in
theorem d0w (s : Scn) (hs : CkOK s) (w : Wy) (c1 c2 c3 : Option Nat) (hw : WyOK s w.N w.T) (m : Mg) (hm : MgOK m) (hc : m.corr = 0) (t0 : Int) (h0 : 0 <= t0 /\ t0 <= 600000000000000) :
  Runs Tryz.prog 45 [scA s, wyA w c1 c2 c3 8, .ifc 104 (.ptr 11 22 0 0), .val (.int .i64 t0)] [gB s.l, ndB s.ns, osB s.os s.hd, osR s.os s.hd, iB false s.dn, iB false s.up, blB s.tr, iB false s.st, iB false w.N, iB false w.T, iB false w.B, .var (mcL m)]
   (Det (.val (.int .i64 (a66 s w.N w.T t0))) [gB s.l, ndB s.ns, osB s.os s.hd, osR s.os s.hd, iB false s.dn, iB false s.up, blB s.tr, iB false s.st, iB false w.N, iB false w.T, iB false w.B, .var (mcL (a84 m (b1f s w.N w.T t0)))]) := by
 have hlg := d3i w c1 c2 c3
 have hbd := b1n hs hw h0
 obtain ⟨hlen, l24, l1, hnd, hdl⟩ := hw
 obtain ⟨hos, hst, hsl, hol⟩ := hs
 have hq : ∀ k, a3d s w.N w.T t0 (k + 1) = ((a3d s w.N w.T t0 k).1 + w.T.getD k 0 + s.st.getD (w.N.getD (k + 1) 0).toNat 0,
   (a3d s w.N w.T t0 k).2 + usF (rdF (s.os.getD (w.N.getD (k + 1) 0).toNat os0) ((a3d s w.N w.T t0 k).1 + w.T.getD k 0 + s.st.getD (w.N.getD (k + 1) 0).toNat 0) - rdF (s.os.getD (w.N.getD (k + 1) 0).toNat os0) ((a3d s w.N w.T t0 k).1 + w.T.getD k 0))
    (rtF (s.os.getD (w.N.getD (k + 1) 0).toNat os0) ((a3d s w.N w.T t0 k).1 + w.T.getD k 0))) := fun _ => rfl
 have hq0 : a3d s w.N w.T t0 0 = (t0, 0) := rfl
 unfold a66 b1f
 generalize hQ : a3d s w.N w.T t0 = Q at *
 refine Runs.mk a0k Tryz.call45 Tryz.func45 rfl Tryz.ntmps45 Tryz.results45 rfl ?_
 (repeat' (first
  | refine SP ?_
  | refine a0c ?_
  | refine CT [some 8, some 9, some 10] hlg ?_
  ))
 refine a0p (σ := Nat) (fun x => x < w.T.length) (fun x => ⟨[(2, .ifc 104 (.ptr 11 22 0 0)), (3, .val (.int .i64 (Q x).1)), (4, .ptr 12 8 0 0), (9, .sl 8 1 0 w.N.length c1), (10, .sl 9 1 0 w.T.length c2), (21, .sl 9 1 0 w.T.length c2), (22, .val (.int .i64 w.T.length)), (23, .val (.int .i64 x))], [gB s.l, ndB s.ns, osB s.os s.hd, osR s.os s.hd, iB false s.dn, iB false s.up, blB s.tr, iB false s.st, iB false w.N, iB false w.T, iB false w.B, .var (mcL (a84 m (Q x).2)), .var (scV s)]⟩) (fun x => w.T.length - x) (0) ?_ ?_ ?_
 ·omega
 ·rw [hq0]
  exact LT [some 0, some 1, some 2, some 3, some 4, some 5, some 6, some 7, some 8, some 9, some 10, some 11, some 12]
 rintro k hk
 have hb := hbd k hk
 have hz : 0 + Int.toNat (k : Int) = k := by omega
 have hdk := hdl k hk
 have eL : IntKind.i64.wrap ((w.T.length : Int) - 1) = (w.T.length : Int) - 1 := by rw [IntKind.wrap_i64]; omega
 have eK : IntKind.i64.wrap ((k : Int) + 1) = (k : Int) + 1 := by rw [IntKind.wrap_i64]; omega
 have eA : IntKind.i64.wrap ((Q k).1 + w.T.getD (0 + Int.toNat (k : Int)) 0) = (Q k).1 + w.T.getD k 0 := by rw [hz, IntKind.wrap_i64]; omega
 by_cases hl : k + 1 = w.T.length
 ·have hk1 : w.T.length - 1 = k := by omega
  rw [hk1]
  (repeat' (first
  | refine SP ?_
  | (apply a0a <;> intro hb <;> (try simp only [nS, nT, eq_self, reduceCtorEq] at hb) <;> (try (exfalso; omega)))
  | refine a0c ?_
  | refine OB ?_
  | exact RT [some 0, some 1, some 2, some 3, some 4, some 5, some 6, some 7, some 8, some 9, some 10, some 11]
  ))
 ·have hX : w.N.getD (0 + (IntKind.i64.wrap ((k : Int) + 1)).toNat) 0 = w.N.getD (k + 1) 0 := by rw [eK, show 0 + ((k : Int) + 1).toNat = k + 1 by omega]
  have hn := hnd (k + 1) (by omega)
  have hbn := hbd (k + 1) (by omega)
  have hqk := hq k
  generalize hA : (Q k).1 + w.T.getD k 0 = A at *
  generalize hXX : w.N.getD (k + 1) 0 = X at *
  have ho := hos X.toNat (by omega)
  have hsx := hst X.toNat (by omega)
  have hX0 : ((X.toNat : Nat) : Int) = X := by omega
  have hz2 : 0 + X.toNat = X.toNat := Nat.zero_add _
  have hzY : 0 + (w.N.getD (0 + (IntKind.i64.wrap ((k : Int) + 1)).toNat) 0).toNat = X.toNat := by rw [hX, Nat.zero_add]
  have eB : IntKind.i64.wrap (IntKind.i64.wrap ((Q k).1 + w.T.getD (0 + Int.toNat (k : Int)) 0) + s.st.getD (0 + (w.N.getD (0 + (IntKind.i64.wrap ((k : Int) + 1)).toNat) 0).toNat) 0) = A + s.st.getD X.toNat 0 := by rw [eA, hzY, IntKind.wrap_i64]; omega
  generalize hB : A + s.st.getD X.toNat 0 = B at *
  have hra := a3w s X.toNat (by omega) ho A (by omega)
  have hrb := a3w s X.toNat (by omega) ho B (by omega)
  have hrt := c4u s.os s.hd (0 + (w.N.getD (0 + (IntKind.i64.wrap ((k : Int) + 1)).toNat) 0).toNat) (by omega) (by rw [hzY]; exact ho) A
  have hrt' : rtF (s.os.getD (0 + (w.N.getD (0 + (IntKind.i64.wrap ((k : Int) + 1)).toNat) 0).toNat) os0) A = rtF (s.os.getD X.toNat os0) A := by rw [hzY]
  have hrp : -500000 <= rtF (s.os.getD X.toNat os0) A /\ rtF (s.os.getD X.toNat os0) A <= 500000 := b4n (a5v ho).1 A _ (Nat.le_refl _)
  have hmo := a9o ho (t := A) (t' := B) (by omega) (by omega) (by omega)
  have hmo2 := hmo.2 (by omega)
  have hr1 := b1y ho (t := A) (by omega)
  have hr2 := b1y ho (t := B) (by omega)
  have hmk : MgOK (a84 m (Q k).2) := ⟨hm.seq, hm.sec, hm.nano, hm.rp, hm.kind⟩
  have hpa := c2a (a84 m (Q k).2) hmk (rdF (s.os.getD X.toNat os0) A) (rdF (s.os.getD X.toNat os0) B) (rtF (s.os.getD X.toNat os0) A) (by omega) (by omega) hmo.1 hmo2 hrp (by show 0 <= m.corr + (Q k).2 * 65536; omega) (by show m.corr + (Q k).2 * 65536 <= _; omega)
  generalize rtF (s.os.getD X.toNat os0) A = R at *
  generalize rtF (s.os.getD (0 + (w.N.getD (0 + (IntKind.i64.wrap ((k : Int) + 1)).toNat) 0).toNat) os0) A = R' at *
  generalize rdF (s.os.getD X.toNat os0) A = a at *
  generalize rdF (s.os.getD X.toNat os0) B = b at *
  generalize hu : usF (b - a) R = u at *
  (repeat' (first
  | refine SP ?_
  | (apply a0a <;> intro hb <;> (try simp only [nS, nT, eq_self, reduceCtorEq] at hb) <;> (try (exfalso; omega)))
  | refine a0q (by decide +kernel) ?_
  | refine a0c ?_
  | refine OB ?_
  | ((first | apply a0m [some 0, some 1, some 2, some 3, some 4, some 5, some 6, some 7] (hra)); exact AS; (any_goals (first | (apply a0s; rfl) )))
  | ((first | apply a0m [some 0, some 1, some 2, some 3, some 4, some 5, some 6, some 7] (hrb)); exact AS; (any_goals (first | (apply a0s; rfl) )))
  | ((first | apply a0m [some 3] (hrt)); exact AS; (any_goals (first | (apply a0s; rfl) )))
  | ((first | apply a0m [some 11] (hpa)); exact AS; (any_goals (first | (apply a0s; rfl) )))
  | (apply a0i (Subtype.mk (k + 1) (by first | omega | (simp only; omega))); (focus ((simp only [hqk]); exact LT [some 0, some 1, some 2, some 3, some 4, some 5, some 6, some 7, some 8, some 9, some 10, some 11, some 12])); (all_goals (try (first | (simp only; omega)))))
  ))
end Go.Vx.L58

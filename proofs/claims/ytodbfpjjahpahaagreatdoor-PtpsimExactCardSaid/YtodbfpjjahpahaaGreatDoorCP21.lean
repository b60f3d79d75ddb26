/- Lemmas of a small executor for the model, and contracts of functions, used for the law that this claim proves. No condition. -/
import Derived.Test.YtodbfpjjahpahaaGreatDoorCP19
set_option linter.unusedSimpArgs false
set_option linter.unusedVariables false
set_option maxRecDepth 100000
namespace Go.Vx.L58
open Go Go.Proofs Go.Vx.L58.PT
/- Without frequency errors: the measured offset, the true one, and the error by asymmetry. -/
/-- The first k numbers of a list, added. -/
def smL (D : List Int) : Nat → Int
 | 0 => 0
 | k + 1 => smL D k + D.getD k 0
theorem smL_take (D E : List Int) : ∀ k, k ≤ D.length → smL (D ++ E) k = smL D k
 | 0, _ => rfl
 | k + 1, h => by
  rw [smL, smL, smL_take D E k (by omega), List.getD_eq_getElem?_getD, List.getElem?_append_left (by omega), ← List.getD_eq_getElem?_getD]
theorem smL_snoc (D : List Int) (x : Int) : smL (D ++ [x]) (D.length + 1) = smL D D.length + x := by
 rw [smL, smL_take D _ _ (Nat.le_refl _), List.getD_eq_getElem?_getD, List.getElem?_append_right (Nat.le_refl _), Nat.sub_self]; rfl
theorem smL_cons (x : Int) (D : List Int) : ∀ k, smL (x :: D) (k + 1) = x + smL D k
 | 0 => by simp [smL]
 | k + 1 => by
  rw [smL, smL_cons x D k, smL]
  simp only [List.getD_cons_succ]
  omega
theorem smL_rev : ∀ D : List Int, smL D.reverse D.length = smL D D.length
 | [] => rfl
 | x :: D => by
  rw [List.reverse_cons, List.length_cons, smL_cons]
  have := smL_snoc D.reverse x
  rw [List.length_reverse] at this
  rw [this, smL_rev D]
  omega
theorem smL_nn {D : List Int} (h : ∀ i, i < D.length → 0 ≤ D.getD i 0) : ∀ k, k ≤ D.length → 0 ≤ smL D k
 | 0, _ => by simp [smL]
 | k + 1, hk => by
  have := smL_nn h k (by omega)
  have := h k (by omega)
  rw [smL]; omega
/-- No clock has a frequency error. -/
def Flat (s : Scn) : Prop := ∀ x, x < s.os.length → (s.os.getD x os0).sg = [⟨0, 0⟩]
theorem rdF_flat {o : Osc} (h : o.sg = [⟨0, 0⟩]) (t : Int) : rdF o t = o.ph + t := by
 unfold rdF
 rw [h]
 have e : (spA [⟨0, 0⟩] 1).getD 0 sp0 = ⟨0, 0, 1125899906842624⟩ := rfl
 simp only [List.length_cons, List.length_nil, Nat.zero_add, whS, rsS, e, Int.zero_mul]
 omega
theorem rtF_flat {o : Osc} (h : o.sg = [⟨0, 0⟩]) (t : Int) : rtF o t = 0 := by
 unfold rtF
 rw [h]
 simp [rtP]
theorem cry_flat {s : Scn} (hs : CkOK s) (hf : Flat s) {N D : List Int} (hw : WyOK s N D) {t0 : Int} (h0 : 0 ≤ t0 ∧ t0 ≤ 600000000000000) : ∀ k, k < D.length →
  (cryS s N D t0 k).1 - (cryS s N D t0 k).2 = t0 + smL D k
 | 0, _ => by simp [cryS, smL]
 | k + 1, hk => by
  have ih := cry_flat hs hf hw h0 k (by omega)
  have hn := hw.nd (k + 1) (by have := hw.len; omega)
  have ho := hf (N.getD (k + 1) 0).toNat (by omega)
  rw [cryS, smL]
  simp only [rdF_flat ho, rtF_flat ho]
  have e : ∀ n : Int, usF n 0 = n := fun n => by show n * 1000000000 / (1000000000 + 0) = n; omega
  rw [e]
  omega
theorem cryT_flat {s : Scn} (hs : CkOK s) (hf : Flat s) {N D : List Int} (hw : WyOK s N D) {t0 : Int} (h0 : 0 ≤ t0 ∧ t0 ≤ 600000000000000) :
  cryT s N D t0 = t0 + smL D D.length + cryC s N D t0 := by
 have l1 := hw.l1
 have h := cry_flat hs hf hw h0 (D.length - 1) (by omega)
 have e : smL D D.length = smL D (D.length - 1) + D.getD (D.length - 1) 0 := by
  have : D.length = (D.length - 1) + 1 := by omega
  rw [this, smL, Nat.add_sub_cancel]
 unfold cryT cryC
 omega
theorem msF_flat {s : Scn} (hs : CkOK s) (hf : Flat s) {w : Wy} (hw : WyOK s w.N w.T) (hw' : WyOK s w.N.reverse w.B.reverse) {t : Int} (ht : 0 ≤ t ∧ t ≤ 562949953421312) :
  (msF s w t).measured - (msF s w t).actual = (smL w.T w.T.length - smL w.B w.B.length + 1) / 2 := by
 have hl := hw.len
 have n0 := hw.nd 0 (by omega)
 have n1 := hw.nd (w.N.length - 1) (by omega)
 have o0 := hf (msM w) (by unfold msM; omega)
 have o1 := hf (msN w) (by unfold msN; omega)
 have ca := cryT_bd hs hw (t0 := t) (by omega)
 have a1 := cryT_flat hs hf hw (t0 := t) (by omega)
 have a2 := cryT_flat hs hf hw' (t0 := msA s w t + 1000000) (by unfold msA; omega)
 rw [List.length_reverse, smL_rev] at a2
 have hL : msL s w t = rdF (s.os.getD (msN w) os0) (msA s w t) - rdF (s.os.getD (msM w) os0) t - cryC s w.N w.T t := rfl
 have hK : msK s w t = rdF (s.os.getD (msM w) os0) (msB s w t) - rdF (s.os.getD (msN w) os0) (msA s w t + 1000000) - cryC s w.N.reverse w.B.reverse (msA s w t + 1000000) := rfl
 have hA : msA s w t = cryT s w.N w.T t := rfl
 have hB : msB s w t = cryT s w.N.reverse w.B.reverse (msA s w t + 1000000) := rfl
 have hT := smL_nn (fun i hi => (hw.dl i hi).1) _ (Nat.le_refl _)
 have hR := smL_nn (fun i hi => (hw'.dl i hi).1) _ (Nat.le_refl _)
 rw [List.length_reverse, smL_rev] at hR
 have hD : msD s w t = (msL s w t + msK s w t) / 2 ∨ (msL s w t + msK s w t ≤ 1 ∧ msD s w t = 0) := by
  unfold msD
  by_cases c : (msL s w t + msK s w t) / 2 > 0
  ·rw [if_pos c]; left; rfl
  ·rw [if_neg c]; right; exact ⟨by omega, rfl⟩
 rw [rdF_flat o1, rdF_flat o0] at hL
 rw [rdF_flat o0, rdF_flat o1] at hK
 unfold msF
 simp only [rdF_flat o1, rdF_flat o0]
 generalize smL w.T w.T.length = S at *
 generalize smL w.B w.B.length = S' at *
 generalize msL s w t = l at *
 generalize msK s w t = k at *
 generalize msD s w t = dd at *
 generalize msA s w t = a at *
 generalize msB s w t = b at *
 omega
/-- The error that the asymmetry of a way causes. -/
def erS (s : Scn) (v : Nat) : Int := (smL (wyS s v).T (wyM s v) - smL (wyS s v).B (wyM s v) + 1) / 2
theorem rnL_flat {s : Scn} (ok : SOk s) (hc : ckS s = 0) (hf : Flat s) {t : Int} (ht : 0 ≤ t ∧ t ≤ 562949953421312) {x : Nat} (hx : x < s.ns.length) :
  ((rnL s t).getD x gp0).measured - ((rnL s t).getD x gp0).actual = erS s x := by
 rw [rnL_get t hx]
 unfold rnG
 by_cases hm : wyM s x = 0
 ·rw [if_pos hm]
  unfold erS
  rw [hm]
  simp only [smL]
  omega
 ·rw [if_neg hm]
  have hw := wyS_ok ok hc hx (by omega)
  have := msF_flat (ckOK ok hc) hf hw.1 hw.2 ht
  obtain ⟨_, l2, l3⟩ := wyS_len s x
  rw [l2, l3] at this
  exact this
theorem upW_eq {s : Scn} (h : s.up = s.dn) (x p : Int) : ∀ k i, (upW s x p k i).t = (upW s x p k i).b
 | 0, i => rfl
 | k + 1, i => by
  rw [upW, h]
  split
  ·rfl
  ·split
   ·rfl
   ·exact upW_eq h x p k (i + 1)
theorem brK_eq {s : Scn} (h : s.up = s.dn) (C : List Int) (i : Nat) : ∀ k, (brK s C i k).t = (brK s C i k).b
 | 0 => rfl
 | k + 1 => by
  rw [brK]
  split
  ·exact upW_eq h _ _ _ _
  ·exact brK_eq h C i k
theorem trS_eq {s : Scn} (h : s.up = s.dn) (i : Nat) : ((trS s).getD i br0).t = ((trS s).getD i br0).b := by
 by_cases hi : i < s.ns.length
 ·have e : (trS s).getD i br0 = brK s (cdS s i) i 8 := by
   show (trI s s.ns.length s.ns.length 0).getD i br0 = _
   unfold trI
   rw [mapR_get _ _ _ _ hi, if_pos hi]
  rw [e]; exact brK_eq h _ _ _
 ·have e : (trS s).getD i br0 = br0 := by
   show (trI s s.ns.length s.ns.length 0).getD i br0 = _
   unfold trI
   rw [mapR_out _ _ _ _ hi]
  rw [e]
theorem wyS_eq {s : Scn} (h : s.up = s.dn) (v : Nat) : (wyS s v).T = (wyS s v).B := by
 unfold wyS wT wB
 simp only
 congr 1
 funext i
 exact trS_eq h _
theorem erS_eq {s : Scn} (h : s.up = s.dn) (v : Nat) : erS s v = 0 := by
 unfold erS
 rw [wyS_eq h]
 omega
theorem erS_bd {s : Scn} (ok : SOk s) (hc : ckS s = 0) {v : Nat} (hv : v < s.ns.length) : (∀ k, k ≤ wyM s v → -(10000000000 * (k : Int)) ≤ smL (wyS s v).T k - smL (wyS s v).B k ∧ smL (wyS s v).T k - smL (wyS s v).B k ≤ 10000000000 * k) ∧ wyM s v ≤ 24 := by
 obtain ⟨l1, l2, l3⟩ := wyS_len s v
 have hM := wyM_bd ok hc hv
 have hU := upL_bd ok hc hv
 obtain ⟨_, hn, _, _⟩ := sc_parts ok hc
 by_cases hm : wyM s v = 0
 ·refine ⟨fun k hk => ?_, by omega⟩
  obtain rfl : k = 0 := by omega
  simp [smL]
 have hw := wyS_ok ok hc hv (by omega)
 have hb : ∀ i, i < wyM s v → 0 ≤ (wyS s v).B.getD i 0 ∧ (wyS s v).B.getD i 0 ≤ 10000000000 := fun i hi => by
  have := hw.2.dl (wyM s v - 1 - i) (by rw [List.length_reverse]; omega)
  rw [rev_getD _ _ (by omega), l3, show wyM s v - 1 - (wyM s v - 1 - i) = i by omega] at this
  exact this
 refine ⟨fun k hk => ?_, by omega⟩
 induction k with
 | zero => simp [smL]
 | succ k ih =>
  have ih := ih (by omega)
  have h1 := hw.1.dl k (by omega)
  have h2 := hb k (by omega)
  rw [smL, smL]
  omega
end Go.Vx.L58

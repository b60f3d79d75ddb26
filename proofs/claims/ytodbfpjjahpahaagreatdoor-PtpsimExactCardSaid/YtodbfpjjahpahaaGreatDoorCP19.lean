/- Lemmas of a small executor for the model, and contracts of functions, used for the law that this claim proves. No condition. -/
import Derived.Test.YtodbfpjjahpahaaGreatDoorCP16
set_option linter.unusedSimpArgs false
set_option linter.unusedVariables false
set_option maxRecDepth 100000
namespace Go.Vx.L58
open Go Go.Proofs
/- A phase moved: what the run says then. -/
section
variable {s : Scn} {v : Nat} {d : Int} {c : Option Nat}
theorem wyS_nd (s : Scn) (v : Nat) : msN (wyS s v) = v := by
 unfold msN wyS
 simp only
 have hl : (wN (upL s v) (wyM s v) (wyM s v + 1)).length = wyM s v + 1 := rvF_len _ _ _
 rw [hl, Nat.add_sub_cancel]
 unfold wN
 rw [rvF_get _ _ _ _ (by omega), Nat.sub_self]
 unfold upL
 rw [clF_hd', Int.toNat_natCast]
where clF_hd' : (clF (trS s) (s.ns.length - 1) v).getD 0 0 = (v : Int) := by cases (s.ns.length - 1) <;> simp [clF]
end
theorem msF_bd {s : Scn} (hs : CkOK s) {w : Wy} (hw : WyOK s w.N w.T) (hw' : WyOK s w.N.reverse w.B.reverse) {t : Int} (ht : 0 ≤ t ∧ t ≤ 562949953421312) :
  (-1000000000000000000 ≤ (msF s w t).measured ∧ (msF s w t).measured ≤ 1000000000000000000) ∧ (-1000000000000000000 ≤ (msF s w t).actual ∧ (msF s w t).actual ≤ 1000000000000000000) ∧ (0 ≤ (msF s w t).delay ∧ (msF s w t).delay ≤ 1000000000000000000) := by
 have hl := hw.len
 have n0 := hw.nd 0 (by omega)
 have n1 := hw.nd (w.N.length - 1) (by omega)
 have o0 := hs.os (msM w) (by unfold msM; omega)
 have o1 := hs.os (msN w) (by unfold msN; omega)
 have ca := cryT_bd hs hw (t0 := t) (by omega)
 have cb := cryT_bd hs hw' (t0 := msA s w t + 1000000) (by unfold msA; omega)
 have r1 := rdF_bd2 o1 (t := msA s w t) (by unfold msA; omega)
 have r2 := rdF_bd2 o0 (t := t) (by omega)
 have r3 := rdF_bd2 o0 (t := msB s w t) (by unfold msB; unfold msA at *; omega)
 have r4 := rdF_bd2 o1 (t := msA s w t + 1000000) (by unfold msA; omega)
 have r5 := rdF_bd2 o0 (t := msA s w t) (by unfold msA; omega)
 have hL : msL s w t = rdF (s.os.getD (msN w) os0) (msA s w t) - rdF (s.os.getD (msM w) os0) t - cryC s w.N w.T t := rfl
 have hK : msK s w t = rdF (s.os.getD (msM w) os0) (msB s w t) - rdF (s.os.getD (msN w) os0) (msA s w t + 1000000) - cryC s w.N.reverse w.B.reverse (msA s w t + 1000000) := rfl
 have hD : (msL s w t + msK s w t ≤ 0 ∧ msD s w t = 0) ∨ (0 ≤ msL s w t + msK s w t ∧ msD s w t = (msL s w t + msK s w t) / 2) := by
  unfold msD
  by_cases c : (msL s w t + msK s w t) / 2 > 0
  ·rw [if_pos c]; right; exact ⟨by omega, rfl⟩
  ·rw [if_neg c]
   by_cases c2 : msL s w t + msK s w t ≤ 0
   ·exact .inl ⟨c2, rfl⟩
   ·exact .inr ⟨by omega, by omega⟩
 unfold msF
 simp only
 generalize msL s w t = l at *
 generalize msK s w t = k at *
 generalize msD s w t = dd at *
 omega
theorem rnL_get {s : Scn} (t : Int) {x : Nat} (hx : x < s.ns.length) : (rnL s t).getD x gp0 = rnG s t x := by
 show (rnI _ _ _).getD x gp0 = _
 unfold rnI; rw [mapR_get _ _ _ _ hx, if_pos hx]
theorem rnL_bd {s : Scn} (ok : SOk s) (hc : ckS s = 0) {t : Int} (ht : 0 ≤ t ∧ t ≤ 562949953421312) {x : Nat} (hx : x < s.ns.length) :
  (-1000000000000000000 ≤ ((rnL s t).getD x gp0).measured ∧ ((rnL s t).getD x gp0).measured ≤ 1000000000000000000) ∧ (-1000000000000000000 ≤ ((rnL s t).getD x gp0).actual ∧ ((rnL s t).getD x gp0).actual ≤ 1000000000000000000) := by
 rw [rnL_get t hx]
 unfold rnG
 by_cases hm : wyM s x = 0
 ·rw [if_pos hm]; simp only; omega
 ·rw [if_neg hm]
  have hw := wyS_ok ok hc hx (by omega)
  have := msF_bd (ckOK ok hc) hw.1 hw.2 ht
  exact ⟨this.1, this.2.1⟩
theorem rnL_lt {s : Scn} (ok : SOk s) (hc : ckS s = 0) (t : Int) {x : Nat} (hx : x < s.ns.length) : ((rnL s t).getD x gp0).known = decide (0 ≤ ((rnL s t).getD x gp0).master) ∧ ((rnL s t).getD x gp0).node = x := by
 rw [rnL_get t hx]
 unfold rnG
 by_cases hm : wyM s x = 0
 ·rw [if_pos hm]; exact ⟨rfl, rfl⟩
 ·rw [if_neg hm]
  unfold msF
  refine ⟨(decide_eq_true (by simp only; omega)).symm, ?_⟩
  simp only [wyS_nd]
end Go.Vx.L58

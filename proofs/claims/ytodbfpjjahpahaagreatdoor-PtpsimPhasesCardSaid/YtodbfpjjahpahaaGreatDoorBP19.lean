/- Lemmas of a small executor for the model, and contracts of functions, used for the law that this claim proves. No condition. -/
import Derived.Test.YtodbfpjjahpahaaGreatDoorBP16
set_option linter.unusedSimpArgs false
set_option linter.unusedVariables false
set_option maxRecDepth 100000
namespace Go.Vx.L58
open Go Go.Proofs
/- A phase moved: what the run says then. -/
def mvO (os : List Osc) (v : Nat) (d : Int) : List Osc := os.set v ⟨(os.getD v os0).ph + d, (os.getD v os0).sg⟩
/-- The scene with one phase moved. -/
abbrev mvS (s : Scn) (v : Nat) (d : Int) (c : Option Nat) : Scn := ⟨s.n, s.l, s.c0, s.ns, s.c1, mvO s.os v d, c, s.hd, s.dn, s.c3, s.up, s.c4, s.tr, s.c5, s.st, s.c6⟩
theorem mvO_len (os : List Osc) (v : Nat) (d : Int) : (mvO os v d).length = os.length := List.length_set
theorem mvO_eq {os : List Osc} {v : Nat} (d : Int) (h : v < os.length) : (mvO os v d).getD v os0 = ⟨(os.getD v os0).ph + d, (os.getD v os0).sg⟩ := by
 unfold mvO
 rw [List.getD_eq_getElem?_getD, List.getElem?_set_self h]; rfl
theorem mvO_ne {os : List Osc} {v x : Nat} (d : Int) (h : x ≠ v) : (mvO os v d).getD x os0 = os.getD x os0 := by
 unfold mvO
 rw [List.getD_eq_getElem?_getD, List.getElem?_set_ne (fun e => h e.symm), ← List.getD_eq_getElem?_getD]
theorem mvO_sg {os : List Osc} {v : Nat} (d : Int) (h : v < os.length) (x : Nat) : ((mvO os v d).getD x os0).sg = (os.getD x os0).sg := by
 by_cases e : x = v
 ·subst e; rw [mvO_eq d h]
 ·rw [mvO_ne d e]
theorem sgR_mv {os : List Osc} {v : Nat} (d : Int) (h : v < os.length) : sgR (mvO os v d) = sgR os := by
 funext i
 unfold sgR
 rw [mvO_sg d h]
theorem rdF_mv {os : List Osc} {v : Nat} (d : Int) (h : v < os.length) (x : Nat) (t : Int) : rdF ((mvO os v d).getD x os0) t = rdF (os.getD x os0) t + if x = v then d else 0 := by
 by_cases e : x = v
 ·subst e
  rw [mvO_eq d h, if_pos rfl]
  unfold rdF
  simp only
  omega
 ·rw [mvO_ne d e, if_neg e, Int.add_zero]
theorem rtF_mv {os : List Osc} {v : Nat} (d : Int) (h : v < os.length) (x : Nat) (t : Int) : rtF ((mvO os v d).getD x os0) t = rtF (os.getD x os0) t := by
 unfold rtF
 rw [mvO_sg d h]
theorem ckO_mv {o : Osc} (h : ckO o = 0) (d : Int) : ckO ⟨o.ph + d, o.sg⟩ = 0 ∨ ckO ⟨o.ph + d, o.sg⟩ = 3 := by
 unfold ckO at *
 by_cases c1 : o.sg.length = 0
 ·rw [if_pos c1] at h; omega
 rw [if_neg c1] at h
 by_cases c2 : 16 < o.sg.length
 ·rw [if_pos c2] at h; omega
 rw [if_neg c2] at h
 simp only
 rw [if_neg c1, if_neg c2]
 by_cases c3 : o.ph < -1125899906842624 ∨ 1125899906842624 < o.ph
 ·rw [if_pos c3] at h; omega
 rw [if_neg c3] at h
 by_cases c4 : o.ph + d < -1125899906842624 ∨ 1125899906842624 < o.ph + d
 ·rw [if_pos c4]; exact .inr rfl
 ·rw [if_neg c4]; exact .inl h
theorem add_sub_add (a b c : Int) : a + c - (b + c) = a - b := by omega
theorem upW_mv (s : Scn) (v : Nat) (d : Int) (c : Option Nat) (x p : Int) : ∀ k i, upW (mvS s v d c) x p k i = upW s x p k i
 | 0, _ => rfl
 | k + 1, i => by rw [upW, upW, upW_mv s v d c x p k (i + 1)]
theorem brK_mv (s : Scn) (v : Nat) (d : Int) (c : Option Nat) (C : List Int) (x : Nat) : ∀ k, brK (mvS s v d c) C x k = brK s C x k
 | 0 => rfl
 | k + 1 => by rw [brK, brK, brK_mv s v d c C x k]; unfold upF; rw [upW_mv]
theorem cdS_mv (s : Scn) (v : Nat) (d : Int) (c : Option Nat) (x : Nat) : cdS (mvS s v d c) x = cdS s x := by
 unfold cdS lastM
 rfl
theorem trS_mv (s : Scn) (v : Nat) (d : Int) (c : Option Nat) : trS (mvS s v d c) = trS s := by
 unfold trS trI
 simp only [cdS_mv, brK_mv]
theorem upL_mv (s : Scn) (v : Nat) (d : Int) (c : Option Nat) (x : Nat) : upL (mvS s v d c) x = upL s x := by
 unfold upL
 rw [trS_mv]
theorem wyM_mv (s : Scn) (v : Nat) (d : Int) (c : Option Nat) (x : Nat) : wyM (mvS s v d c) x = wyM s x := by
 unfold wyM
 rw [upL_mv]
theorem wyS_mv (s : Scn) (v : Nat) (d : Int) (c : Option Nat) (x : Nat) : wyS (mvS s v d c) x = wyS s x := by
 unfold wyS
 rw [upL_mv, wyM_mv, trS_mv]
section
variable {s : Scn} {v : Nat} {d : Int} {c : Option Nat}
theorem cryS_mv (h : v < s.os.length) (N D : List Int) (t0 : Int) : ∀ k, cryS (mvS s v d c) N D t0 k = cryS s N D t0 k
 | 0 => rfl
 | k + 1 => by
  rw [cryS, cryS, cryS_mv h N D t0 k]
  simp only [rdF_mv d h, rtF_mv d h, add_sub_add]
theorem cryT_mv (h : v < s.os.length) (N D : List Int) (t0 : Int) : cryT (mvS s v d c) N D t0 = cryT s N D t0 := by
 unfold cryT; rw [cryS_mv h]
theorem cryC_mv (h : v < s.os.length) (N D : List Int) (t0 : Int) : cryC (mvS s v d c) N D t0 = cryC s N D t0 := by
 unfold cryC; rw [cryS_mv h]
theorem ckS1_mv (hv : v < s.os.length) : ∀ k i, ckS1 s k i = 0 → ckS1 (mvS s v d c) k i = 0 ∨ ckS1 (mvS s v d c) k i = 3
 | 0, _, _ => .inl rfl
 | k + 1, i, h => by
  rw [ckS1] at h ⊢
  have ih := ckS1_mv hv k (i + 1)
  by_cases c1 : ckO (s.os.getD i os0) = 0
  ·rw [if_neg (by omega)] at h
   have hi : ckO ((mvO s.os v d).getD i os0) = 0 ∨ ckO ((mvO s.os v d).getD i os0) = 3 := by
    by_cases e : i = v
    ·subst e; rw [mvO_eq d hv]; exact ckO_mv c1 d
    ·rw [mvO_ne d e]; exact .inl c1
   rcases hi with hi | hi
   ·rw [if_neg (by simp only; omega)]
    by_cases c2 : dly (s.st.getD i 0) = false
    ·rw [if_pos c2]; exact .inr rfl
    ·rw [if_neg c2] at h ⊢
     exact ih h
   ·rw [if_pos (by simp only; omega)]
    exact .inr hi
  ·rw [if_pos c1] at h; omega
theorem ckS2_mv : ∀ k i, ckS2 (mvS s v d c) k i = ckS2 s k i
 | 0, _ => rfl
 | k + 1, i => by rw [ckS2, ckS2, ckS2_mv k (i + 1)]
theorem ckS_mv (hv : v < s.os.length) (h : ckS s = 0) : ckS (mvS s v d c) = 0 ∨ ckS (mvS s v d c) = 3 := by
 obtain ⟨h1, h2, h3, h4⟩ := ckS_parts h
 have hm := ckS1_mv (d := d) (c := c) hv _ _ h3
 unfold ckS
 simp only [mvO_len]
 rw [if_neg (by omega), if_neg (by omega), ckS2_mv, h4]
 split
 ·exact hm
 ·exact .inl rfl
theorem wyS_nd (s : Scn) (v : Nat) : msN (wyS s v) = v := by
 unfold msN wyS
 simp only
 have hl : (wN (upL s v) (wyM s v) (wyM s v + 1)).length = wyM s v + 1 := rvF_len _ _ _
 rw [hl, Nat.add_sub_cancel]
 unfold wN
 rw [rvF_get _ _ _ _ (by omega), Nat.sub_self]
 unfold upL
 rw [clF_hd', Int.toNat_natCast]
where clF_hd' : (clF (trS s) (s.ns.length - 1) v).getD 0 0 = (v : Int) := by cases (s.ns.length - 1) <;> simp [clF]
/-- What a moved phase changes in a gap. -/
def mvG (g : Gp) (d : Int) : Gp := ⟨g.node, g.master, g.measured + (if g.known then d else 0), g.actual + d, g.delay, g.known⟩
theorem rnG_mv (hv : v < s.os.length) (t : Int) (x : Nat) (hx : (rnG s t x).master ≠ v) (h0 : x = v → 0 ≤ (rnG s t x).master) : rnG (mvS s v d c) t x = if x = v then mvG (rnG s t x) d else rnG s t x := by
 have e1 : wyM (mvS s v d c) x = wyM s x := wyM_mv ..
 have e2 : wyS (mvS s v d c) x = wyS s x := wyS_mv ..
 unfold rnG at *
 rw [e1, e2]
 by_cases hm : wyM s x = 0
 ·rw [if_pos hm] at hx h0 ⊢
  rw [if_neg (fun e => by have := h0 e; simp only at this; omega)]
  rw [if_pos hm]
 ·rw [if_neg hm] at hx ⊢
  rw [if_neg hm]
  have hM : msM (wyS s x) ≠ v := fun e => hx (by show ((msM (wyS s x) : Nat) : Int) = v; omega)
  have hN := wyS_nd s x
  generalize wyS s x = w at *
  have a1 : msA (mvS s v d c) w t = msA s w t := cryT_mv hv _ _ _
  have a2 : msB (mvS s v d c) w t = msB s w t := by unfold msB; rw [a1]; exact cryT_mv hv _ _ _
  have a3 : msL (mvS s v d c) w t = msL s w t + if x = v then d else 0 := by
   unfold msL; rw [a1, cryC_mv hv]
   simp only [rdF_mv d hv, hN, if_neg hM]
   omega
  have a4 : msK (mvS s v d c) w t = msK s w t - if x = v then d else 0 := by
   unfold msK; rw [a1, a2, cryC_mv hv]
   simp only [rdF_mv d hv, hN, if_neg hM]
   omega
  have a5 : msD (mvS s v d c) w t = msD s w t := by
   unfold msD; rw [a3, a4]
   rw [show msL s w t + (if x = v then d else 0) + (msK s w t - if x = v then d else 0) = msL s w t + msK s w t by omega]
  unfold msF
  rw [a1, a3, a5]
  simp only [rdF_mv d hv, hN, if_neg hM]
  by_cases e : x = v
  ·simp only [if_pos e, mvG, if_true]
   congr 1 <;> omega
  ·simp only [if_neg e]
   congr 1 <;> omega
theorem rnL_mv (hv : v < s.os.length) (t : Int) (hm : ∀ x, x < s.ns.length → ((rnL s t).getD x gp0).master ≠ v) (h0 : 0 ≤ ((rnL s t).getD v gp0).master) (x : Nat) (hx : x < s.ns.length) :
  (rnL (mvS s v d c) t).getD x gp0 = if x = v then mvG ((rnL s t).getD x gp0) d else (rnL s t).getD x gp0 := by
 have g1 : (rnL (mvS s v d c) t).getD x gp0 = rnG (mvS s v d c) t x := by
  show (rnI _ _ _).getD x gp0 = _
  unfold rnI; rw [mapR_get _ _ _ _ hx, if_pos hx]
 have g2 : ∀ x, x < s.ns.length → (rnL s t).getD x gp0 = rnG s t x := fun x hx => by
  show (rnI _ _ _).getD x gp0 = _
  unfold rnI; rw [mapR_get _ _ _ _ hx, if_pos hx]
 rw [g1, g2 x hx]
 refine rnG_mv hv t x ?_ ?_
 ·rw [← g2 x hx]; exact hm x hx
 ·rintro rfl
  rw [← g2 x hx]; exact h0
end
theorem msF_bd {s : Scn} (hs : CkOK s) {w : Wy} (hw : WyOK s w.N w.T) (hw' : WyOK s w.N.reverse w.B.reverse) {t : Int} (ht : 0 ≤ t ∧ t ≤ 562949953421312) :
  (-1000000000000000000 ≤ (msF s w t).measured ∧ (msF s w t).measured ≤ 1000000000000000000) ∧ (-1000000000000000000 ≤ (msF s w t).actual ∧ (msF s w t).actual ≤ 1000000000000000000) ∧ (0 ≤ (msF s w t).delay ∧ (msF s w t).delay ≤ 1000000000000000000) := by
 have hl := hw.len
 have n0 := hw.nd 0 (by omega)
 have n1 := hw.nd (w.N.length - 1) (by omega)
 have o0 := hs.os (msM w) (by unfold msM; omega)
 have o1 := hs.os (msN w) (by unfold msN; omega)
 have ca := cryT_bd hs hw (t0 := t) (by omega)
 have cb := cryT_bd hs hw' (t0 := msA s w t + 1000000) (by unfold msA; omega)
 have r1 := rdF_bd2 o1 (t := msA s w t) (by unfold msA; omega)
 have r2 := rdF_bd2 o0 (t := t) (by omega)
 have r3 := rdF_bd2 o0 (t := msB s w t) (by unfold msB; unfold msA at *; omega)
 have r4 := rdF_bd2 o1 (t := msA s w t + 1000000) (by unfold msA; omega)
 have r5 := rdF_bd2 o0 (t := msA s w t) (by unfold msA; omega)
 have hL : msL s w t = rdF (s.os.getD (msN w) os0) (msA s w t) - rdF (s.os.getD (msM w) os0) t - cryC s w.N w.T t := rfl
 have hK : msK s w t = rdF (s.os.getD (msM w) os0) (msB s w t) - rdF (s.os.getD (msN w) os0) (msA s w t + 1000000) - cryC s w.N.reverse w.B.reverse (msA s w t + 1000000) := rfl
 have hD : (msL s w t + msK s w t ≤ 0 ∧ msD s w t = 0) ∨ (0 ≤ msL s w t + msK s w t ∧ msD s w t = (msL s w t + msK s w t) / 2) := by
  unfold msD
  by_cases c : (msL s w t + msK s w t) / 2 > 0
  ·rw [if_pos c]; right; exact ⟨by omega, rfl⟩
  ·rw [if_neg c]
   by_cases c2 : msL s w t + msK s w t ≤ 0
   ·exact .inl ⟨c2, rfl⟩
   ·exact .inr ⟨by omega, by omega⟩
 unfold msF
 simp only
 generalize msL s w t = l at *
 generalize msK s w t = k at *
 generalize msD s w t = dd at *
 omega
theorem rnL_get {s : Scn} (t : Int) {x : Nat} (hx : x < s.ns.length) : (rnL s t).getD x gp0 = rnG s t x := by
 show (rnI _ _ _).getD x gp0 = _
 unfold rnI; rw [mapR_get _ _ _ _ hx, if_pos hx]
theorem rnL_bd {s : Scn} (ok : SOk s) (hc : ckS s = 0) {t : Int} (ht : 0 ≤ t ∧ t ≤ 562949953421312) {x : Nat} (hx : x < s.ns.length) :
  (-1000000000000000000 ≤ ((rnL s t).getD x gp0).measured ∧ ((rnL s t).getD x gp0).measured ≤ 1000000000000000000) ∧ (-1000000000000000000 ≤ ((rnL s t).getD x gp0).actual ∧ ((rnL s t).getD x gp0).actual ≤ 1000000000000000000) := by
 rw [rnL_get t hx]
 unfold rnG
 by_cases hm : wyM s x = 0
 ·rw [if_pos hm]; simp only; omega
 ·rw [if_neg hm]
  have hw := wyS_ok ok hc hx (by omega)
  have := msF_bd (ckOK ok hc) hw.1 hw.2 ht
  exact ⟨this.1, this.2.1⟩
theorem rnL_lt {s : Scn} (ok : SOk s) (hc : ckS s = 0) (t : Int) {x : Nat} (hx : x < s.ns.length) : ((rnL s t).getD x gp0).known = decide (0 ≤ ((rnL s t).getD x gp0).master) ∧ ((rnL s t).getD x gp0).node = x := by
 rw [rnL_get t hx]
 unfold rnG
 by_cases hm : wyM s x = 0
 ·rw [if_pos hm]; exact ⟨rfl, rfl⟩
 ·rw [if_neg hm]
  unfold msF
  refine ⟨(decide_eq_true (by simp only; omega)).symm, ?_⟩
  simp only [wyS_nd]
end Go.Vx.L58

/- Lemmas of a small executor for the model, and contracts of functions, used for the law that this claim proves. No condition. -/
import Derived.Test.YtodbfpjjahpahaaGreatDoorEPA
set_option linter.unusedSimpArgs false
set_option linter.unusedVariables false
set_option maxRecDepth 100000
namespace Go.Vx.L58
open Go Go.Proofs
def b9o (t : Int) (l : List Spn) : Nat -> Int
 | 0 => 0
 | k + 1 => b9o t l k + dF t (l.getD k sp0)
def c0o (t : Int) (l : List Spn) : Nat -> Int
 | 0 => 0
 | k + 1 => c0o t l k + (l.getD k sp0).p * dF t (l.getD k sp0)
theorem c3v (t : Int) (l : List Spn) : ∀ k, c0o t l k = whS t l k * 1000000000 + rsS t l k
 | 0 => by simp [c0o, whS, rsS]
 | k + 1 => by
  rw [c0o, whS, rsS, c3v t l k, Int.add_mul, Int.mul_assoc]
  have h := Int.mul_ediv_add_emod (dF t (l.getD k sp0)) 1000000000
  have : (l.getD k sp0).p * dF t (l.getD k sp0) = (l.getD k sp0).p * (dF t (l.getD k sp0) / 1000000000 * 1000000000) + (l.getD k sp0).p * (dF t (l.getD k sp0) % 1000000000) := by
   rw [<- Int.mul_add]; congr 1; omega
  rw [this]; omega
theorem c9f {t t' : Int} (h : t <= t') (x : Spn) : dF t x <= dF t' x := by
 unfold dF
 (repeat' split) <;> omega
theorem b4i {t t' : Int} (h : t <= t') {l : List Spn} (hp : ∀ i, i < l.length -> -500000 <= (l.getD i sp0).p /\ (l.getD i sp0).p <= 500000) :
  ∀ k, k <= l.length -> -(500000 * (b9o t' l k - b9o t l k)) <= c0o t' l k - c0o t l k /\ c0o t' l k - c0o t l k <= 500000 * (b9o t' l k - b9o t l k)
 | 0, _ => by simp [c0o, b9o]
 | k + 1, hk => by
  have ih := b4i h hp k (by omega)
  have hd := c9f h (l.getD k sp0)
  have hm := b0v (hp k (by omega)) (d := dF t' (l.getD k sp0) - dF t (l.getD k sp0)) (B := dF t' (l.getD k sp0) - dF t (l.getD k sp0)) ⟨by omega, by omega⟩
  have hms := Int.mul_sub (l.getD k sp0).p (dF t' (l.getD k sp0)) (dF t (l.getD k sp0))
  rw [c0o, c0o, b9o, b9o]
  omega
theorem c3k {sg : List Sg} (h : SgOK sg) {t : Int} (ht : 0 <= t /\ t <= 1125899906842624) : ∀ k, k < sg.length -> b9o t (spA sg sg.length) (k + 1) = if (spE sg k).e < t then (spE sg k).e else t
 | 0, hk => by
  have e0 : (spA sg sg.length).getD 0 sp0 = spE sg 0 := by rw [a3u, if_pos ⟨hk, hk⟩]
  have hz : (spE sg 0).a = 0 := h.z
  have he : 0 <= (spE sg 0).e := by
   unfold spE; simp only; split
   ·exact (h.a0 1 (by omega)).1
   ·omega
  rw [b9o, b9o, e0]
  unfold dF
  rw [hz]
  (repeat' split) <;> omega
 | k + 1, hk => by
  have ih := c3k h ht k (by omega)
  have e0 : (spA sg sg.length).getD (k + 1) sp0 = spE sg (k + 1) := by rw [a3u, if_pos ⟨hk, hk⟩]
  have hae : (spE sg k).e = (spE sg (k + 1)).a := by
   unfold spE; simp only; rw [if_pos hk]
  have hle : (spE sg (k + 1)).a <= (spE sg (k + 1)).e := by
   unfold spE; simp only; split
   ·have := h.up (k + 1) (by omega); omega
   ·exact (h.a0 (k + 1) hk).2
  rw [b9o, ih, e0]
  unfold dF
  rw [hae]
  (repeat' split) <;> omega
theorem b74 {sg : List Sg} (h : SgOK sg) {t : Int} (ht : 0 <= t /\ t <= 1125899906842624) : b9o t (spA sg sg.length) sg.length = t := by
 have l1 := h.l1
 have := c3k h ht (sg.length - 1) (by omega)
 rw [show sg.length - 1 + 1 = sg.length by omega] at this
 rw [this]
 have he : (spE sg (sg.length - 1)).e = 1125899906842624 := by
  unfold spE; simp only; rw [if_neg (by omega)]
 rw [he]
 split <;> omega
theorem d2m (o : Osc) (t : Int) : rdF o t = o.ph + t + c0o t (spA o.sg o.sg.length) o.sg.length / 1000000000 := by
 unfold rdF
 rw [c3v, Int.add_comm (_ * 1000000000), Int.add_mul_ediv_right _ _ (by omega)]
 omega
theorem a9o {o : Osc} (hc : ckO o = 0) {t t' : Int} (h0 : 0 <= t) (h : t <= t') (h1 : t' <= 1125899906842624) : rdF o t <= rdF o t' /\ (t' - t <= 10000000000 -> rdF o t' - rdF o t <= 17179869184) := by
 obtain ⟨hs, _⟩ := a5v hc
 have hg := b4i h (l := spA o.sg o.sg.length) (b5j hs).p0 o.sg.length (by rw [a4r]; omega)
 rw [b74 hs (by omega), b74 hs (by omega)] at hg
 rw [d2m, d2m]
 omega
end Go.Vx.L58

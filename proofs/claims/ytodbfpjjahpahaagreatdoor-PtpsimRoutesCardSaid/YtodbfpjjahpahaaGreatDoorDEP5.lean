/- Lemmas of a small executor for the model, and contracts of functions, used for the law that this claim proves. No condition. -/
import Derived.Test.YtodbfpjjahpahaaGreatDoorDEAC
import Derived.Test.YtodbfpjjahpahaaGreatDoorDEPA
set_option linter.unusedSimpArgs false
set_option linter.unusedVariables false
set_option maxRecDepth 100000
namespace Go.Vx.L58
open Go Go.Proofs
variable {ns : List Nd} {l : List Ed}
theorem dsN_is (hN : NOK ns l) {i : Nat} (hi : i < ns.length) : IsD ns.length l i (dsA ns.length l i) := by
 obtain ⟨hc, hn, hq⟩ := hN.parts
 obtain ⟨m', hmm, hmb, hl64, hed⟩ := ckC_parts hc
 obtain rfl : ns.length = m' := by omega
 unfold dsA
 rw [if_pos (hasB_of hc (by omega) (by omega)), Int.toNat_natCast, Int.toNat_natCast]
 exact (dsF_is hed hmb.2 hi).1
theorem pe_of_edge (hN : NOK ns l) {e : Ed} (he : e ∈ l) {x : Nat} {y : Nat} (h : AdjE e x (y : Int)) : ∃ p q, (netP ns l).pe x p = some (y, q) := by
 obtain ⟨hc, hn, hq⟩ := hN.parts
 obtain ⟨_, _, h3⟩ := ckC_partsB hc
 obtain ⟨p1, p2⟩ := peer_both l (ckC_nodup hc) e he
 have hr := h3 e he
 simp only [endB, decide_eq_true_eq] at hr
 rcases h with ⟨h1, h2⟩ | ⟨h1, h2⟩
 ·refine ⟨e.pa.toNat, e.pb.toNat, ?_⟩
  have hx : (x : Int) < ns.length := by omega
  have hp : ((e.pa.toNat : Nat) : Int) = e.pa := by omega
  simp only [netP]
  rw [hp, ← h1, peerF_of hc (by omega) (by omega), p1, if_pos rfl, ← h2, Int.toNat_natCast]
 ·refine ⟨e.pb.toNat, e.pa.toNat, ?_⟩
  have hp : ((e.pb.toNat : Nat) : Int) = e.pb := by omega
  simp only [netP]
  rw [hp, ← h1, peerF_of hc (by omega) (by omega), p2, if_pos rfl, ← h2, Int.toNat_natCast]
theorem adj_of_pe (hN : NOK ns l) {x p y q : Nat} (h : (netP ns l).pe x p = some (y, q)) : Adj l x (y : Int) := by
 obtain ⟨hc, hn, hq⟩ := hN.parts
 obtain ⟨⟨hx, hy⟩, _⟩ := (netOK hN).pe_ok x p y q h
 have hx : x < ns.length := hx
 simp only [netP] at h
 split at h
 ·rename_i hk
  simp only [Option.some.injEq, Prod.mk.injEq] at h
  obtain ⟨y', q', h4, h5, _⟩ := pe_full hc hx hk
  rw [h4] at h
  simp only [Int.toNat_natCast] at h
  obtain ⟨rfl, _⟩ := h
  rw [peerF_of hc (by omega) (by omega)] at h4 hk
  obtain ⟨e, he, ⟨h1, h2⟩ | ⟨h1, h2⟩⟩ := (peerL_ok _ _ l).1 hk
  ·obtain ⟨p1, _⟩ := peer_both l (ckC_nodup hc) e he
   rw [← h1, ← h2, p1] at h4
   exact ⟨e, he, .inl ⟨h1, (Prod.mk.inj h4).1.symm⟩⟩
  ·obtain ⟨_, p2⟩ := peer_both l (ckC_nodup hc) e he
   rw [← h1, ← h2, p2] at h4
   exact ⟨e, he, .inr ⟨h1, (Prod.mk.inj h4).1.symm⟩⟩
 ·cases h
theorem dst_reach (hN : NOK ns l) {i j : Nat} (hi : i < ns.length) (hj : j < ns.length) : ∀ (k x : Nat), x < ns.length → dsN ns l j x = k → 0 ≤ dsN ns l i x → 0 ≤ dsN ns l i j
 | k, x, hx, hk, h0 => by
  have hDi := dsN_is hN hi
  have hDj := dsN_is hN hj
  rcases hDj.back x hx (by show 0 ≤ dsN ns l j x; omega) with rfl | ⟨y, hy, hA, h1, h2⟩
  ·exact h0
  ·match k with
   | 0 => exact absurd hk (by show ¬ (dsA ns.length l j).getD x 0 = _; omega)
   | k + 1 =>
    have h3 := hDi.edge x hx y hy hA h0
    have hk : (dsA ns.length l j).getD x 0 = ((k + 1 : Nat) : Int) := hk
    exact dst_reach hN hi hj k y hy (by show (dsA ns.length l j).getD y 0 = _; omega) h3.1
theorem dst_ok (hN : NOK ns l) : (netP ns l).Dst (dsN ns l) where
 low := fun i y hi hy => (dsN_is hN hi).low y hy
 zero := fun i hi => (dsN_is hN hi).zero
 zeq := fun i y hi hy h => by
  have h : (dsA ns.length l i).getD y 0 = 0 := h
  rcases (dsN_is hN hi).back y hy (by omega) with h1 | ⟨z, _, _, h2, h3⟩
  ·exact h1
  ·omega
 edge := fun i x p y q hi hp h0 => by
  obtain ⟨⟨hx, hy⟩, _⟩ := (netOK hN).pe_ok x p y q hp
  exact (dsN_is hN hi).edge x hx y hy (adj_of_pe hN hp) h0
 back := fun i x hi hx h0 => by
  have h0 : 0 < (dsA ns.length l i).getD x 0 := h0
  rcases (dsN_is hN hi).back x hx (by omega) with rfl | ⟨y, hy, ⟨e, he, hA⟩, h1, _⟩
  ·have := (dsN_is hN hi).zero; omega
  ·obtain ⟨p, q, hp⟩ := pe_of_edge hN he hA
   exact ⟨p, y, q, hp, h1⟩
 comp := fun i j x hi hj hx h1 h2 => by
  obtain ⟨k, hk⟩ := Int.eq_ofNat_of_zero_le h2
  exact dst_reach hN hi hj k x hx hk h1
theorem dst_symm (hN : NOK ns l) : ∀ i j, i < ns.length → j < ns.length → dsN ns l i j = dsN ns l j i := fun i j hi hj =>
 isD_symm (D := fun a => dsA ns.length l a) (fun a ha => dsN_is hN ha) i j hi hj
end Go.Vx.L58

/- Lemmas of a small executor for the model, and contracts of functions, used for the law that this claim proves. No condition. -/
import Derived.Test.YtodbfpjjahpahaaGreatDoorDPB
set_option linter.unusedSimpArgs false
set_option linter.unusedVariables false
set_option maxRecDepth 100000
namespace Go.Vx.L58
open Go Go.Proofs
theorem upW_peer (s : Scn) (v w : Int) : ∀ k i, i + k = s.l.length → (peerL (s.l.drop i) v w).2.2 = true → (upW s v w k i).p = (peerL (s.l.drop i) v w).1
 | 0, i, h, hp => by
  rw [List.drop_eq_nil_of_le (by omega)] at hp
  simp [peerL] at hp
 | k + 1, i, h, hp => by
  rw [drop_cons s.l i ed0 (by omega)] at hp ⊢
  rw [upW]
  unfold peerL at hp ⊢
  by_cases c1 : (s.l.getD i ed0).a = v ∧ (s.l.getD i ed0).pa = w
  ·rw [if_pos c1, if_pos c1]
  ·rw [if_neg c1, if_neg c1]
   rw [if_neg c1] at hp
   by_cases c2 : (s.l.getD i ed0).b = v ∧ (s.l.getD i ed0).pb = w
   ·rw [if_pos c2, if_pos c2]
   ·rw [if_neg c2, if_neg c2]
    rw [if_neg c2] at hp
    exact upW_peer s v w k (i + 1) (by omega) hp
theorem brK_none (s : Scn) (C : List Int) (x : Nat) : ∀ k, (∀ i, i < k → C.getD i 0 ≠ 6) → brK s C x k = bm
 | 0, _ => rfl
 | k + 1, h => by
  rw [brK, if_neg (h k (by omega))]
  exact brK_none s C x k fun i hi => h i (by omega)
theorem brK_one (s : Scn) (C : List Int) (x b : Nat) : ∀ k, b < k → (∀ i, i < k → (C.getD i 0 = 6 ↔ i = b)) → brK s C x k = upF s x ((b : Int) + 1)
 | 0, hb, _ => by omega
 | k + 1, hb, h => by
  rw [brK]
  by_cases e : k = b
  ·subst e
   rw [if_pos ((h k (by omega)).2 rfl)]
  ·rw [if_neg (fun h' => e ((h k (by omega)).1 h'))]
   exact brK_one s C x b k (by omega) fun i hi => h i (by omega)
section
variable {s : Scn}
abbrev gS (s : Scn) : NetP := netP s.ns s.l
abbrev mS (s : Scn) : Mem := (gS s).run (fun _ _ => none) s.ns.length
theorem cdS_cod (ok : SOk s) (hc : ckS s = 0) (x i : Nat) (hi : i < 8) : (cdS s x).getD i 0 = (gS s).cod (mS s) x i := by
 obtain ⟨hN, _, _, _⟩ := sc_parts ok hc
 have hV := vs_run hN (sok_ent (ns := s.ns) (l := s.l) (ms := []) (by rfl) (fun m h => by cases h)) ((s.ns.length : Int)).toNat
 have hm : memOf (entS (lastM s)) = mS s := by
  show memOf (entS (lxA (rsN s.ns s.l) ((netP s.ns s.l).run (memOf (entS [])) (s.ns.length : Int).toNat) s.ns.length)) = _
  rw [memOf_lx hN hV, memOf_nil, Int.toNat_natCast]
 unfold cdS
 rw [hrX_hrd, hm]
 show (codP _ (hrd (mS s) x) (hrd (mS s) x).length).getD i 0 = _
 rw [hrd_len, codP_get _ _ _ _ hi]
 rfl
theorem cod_self {G : NetP} {M : Mem} {x : Nat} (h : selfD (G.ow x) (hrd M x) = true) (i : Nat) : G.cod M x i ≠ 6 := by
 unfold NetP.cod codD
 rw [if_pos h]; decide
theorem cod_other {G : NetP} {M : Mem} {x b : Nat} (h : selfD (G.ow x) (hrd M x) = false) (e1 : bstL (hrd M x) = b) (i : Nat) : G.cod M x i = 6 ↔ i = b := by
 unfold NetP.cod codD
 rw [if_neg (by rw [h]; simp), e1]
 by_cases hib : i = b
 ·rw [if_pos (by rw [hib])]; exact ⟨fun _ => hib, fun _ => rfl⟩
 ·rw [if_neg (by omega)]
  refine ⟨fun h => ?_, fun h => absurd h hib⟩
  split at h <;> cases h
theorem trS_get (s : Scn) {x : Nat} (hx : x < s.ns.length) : (trS s).getD x br0 = brK s (cdS s x) x 8 := by
 show (trI s s.ns.length s.ns.length 0).getD x br0 = _
 unfold trI
 rw [mapR_get _ _ _ _ hx, if_pos hx]
theorem par_step (ok : SOk s) (hc : ckS s = 0) {m x k : Nat} (hm : (gS s).Best (dsN s.ns s.l) m) (hx : x < s.ns.length) (hd : dsN s.ns s.l m x = k) :
  (k = 0 → ((trS s).getD x br0).p = -1) ∧ (0 < k → ∃ y : Nat, y < s.ns.length ∧ ((trS s).getD x br0).p = y ∧ dsN s.ns s.l m y + 1 = k) := by
 obtain ⟨hN, hn, _, _⟩ := sc_parts ok hc
 have hG := netOK hN
 have hD := dst_ok hN
 have hlt := dst_lt_n hG hD hm.1 (y := x) hx
 have hnn : (gS s).n = s.ns.length := rfl
 have hnn2 : (netP s.ns s.l).n = s.ns.length := rfl
 have hS := starts hG hD hm (x := x) (k := k) (t := s.ns.length) hx (by omega) hd (by omega)
 rw [trS_get s hx]
 rcases hS with ⟨rfl, hs, _⟩ | ⟨h0, hs, hf6, hst⟩
 ·refine ⟨fun _ => ?_, fun h => by omega⟩
  rw [brK_none s _ x 8 fun i hi => by rw [cdS_cod ok hc x i hi]; exact cod_self hs i]
 ·refine ⟨fun h => by omega, fun _ => ?_⟩
  rcases fol_cases (gS s) (mS s) x with ⟨e, _⟩ | ⟨_, b, e1, e2, e3, ⟨a, e4⟩, _⟩
  ·rw [hs] at e; cases e
  have hgood := good_run hG hD (M := fun _ _ => none) (fun x p a d h => by cases h) s.ns.length x (b + 1) a _ e4
  rcases good_master hG hD hm (by rw [hd]; omega) hgood with h | ⟨_, y, q, hp, h1, h2⟩
  ·unfold ltM at h
   rw [show ((gS s).fol (mS s) x).mk6 = ((gS s).ow m).mk6 from hf6, lexB_irr] at h; cases h
  obtain ⟨⟨_, hy⟩, _, _, _, hb⟩ := hG.pe_ok _ _ _ _ hp
  have hed := hD.edge m y q x (b + 1) hm.1 hb h1
  have hst' : ((gS s).fol (mS s) x).st + 1 = k := hst
  refine ⟨y, hy, ?_, by rw [hd] at hed; omega⟩
  rw [brK_one s _ x b 8 e2 fun i hi => by rw [cdS_cod ok hc x i hi]; exact cod_other hs e1 i]
  have hpe : (if (peerF s.ns.length s.l x ((b + 1 : Nat) : Int)).2.2 = true then some ((peerF s.ns.length s.l x ((b + 1 : Nat) : Int)).1.toNat, (peerF s.ns.length s.l x ((b + 1 : Nat) : Int)).2.1.toNat) else none) = some (y, q) := hp
  have hck := hN.parts.1
  have hpF : peerF s.ns.length s.l x ((b + 1 : Nat) : Int) = peerL s.l x ((b + 1 : Nat) : Int) := peerF_of hck (a := (x : Int)) (by omega) (by omega) _
  by_cases ht : (peerF s.ns.length s.l x ((b + 1 : Nat) : Int)).2.2 = true
  ·rw [if_pos ht] at hpe
   simp only [Option.some.injEq, Prod.mk.injEq] at hpe
   obtain ⟨y', q', hf, _⟩ := pe_full hck hx ht
   have hu := upW_peer s x ((b + 1 : Nat) : Int) s.l.length 0 (by omega) (by rw [List.drop_zero, ← hpF]; exact ht)
   rw [List.drop_zero, ← hpF, hf] at hu
   rw [hf] at hpe
   have : ((b : Int) + 1) = ((b + 1 : Nat) : Int) := by omega
   rw [this]
   show (upW s x ((b + 1 : Nat) : Int) s.l.length 0).p = _
   rw [hu]
   simp only at hpe ⊢
   omega
  ·rw [if_neg ht] at hpe; cases hpe
theorem clF_hd (t : List Br) (k x : Nat) : (clF t k x).getD 0 0 = (x : Int) := by cases k <;> simp [clF]
theorem clF_way (ok : SOk s) (hc : ckS s = 0) {m : Nat} (hm : (gS s).Best (dsN s.ns s.l) m) : ∀ (k f x : Nat), k ≤ f → x < s.ns.length → dsN s.ns s.l m x = k → (clF (trS s) f x).length = k + 1 ∧ (clF (trS s) f x).getD k 0 = (m : Int)
 | 0, f, x, _, hx, hd => by
  obtain ⟨hN, hn, _, _⟩ := sc_parts ok hc
  have hp := (par_step ok hc hm hx hd).1 rfl
  have hmx : x = m := (dst_ok hN).zeq m x hm.1 hx (by rw [hd]; rfl)
  subst hmx
  cases f with
  | zero => exact ⟨rfl, rfl⟩
  | succ f =>
   rw [clF, if_neg (by rw [hp]; decide)]
   exact ⟨rfl, rfl⟩
 | k + 1, 0, x, h, _, _ => by omega
 | k + 1, f + 1, x, h, hx, hd => by
  obtain ⟨y, hy, hp, hdy⟩ := (par_step ok hc hm hx hd).2 (by omega)
  have ih := clF_way ok hc hm k f y (by omega) hy (by omega)
  rw [clF, if_pos (by rw [hp]; omega), hp, Int.toNat_natCast]
  exact ⟨by rw [List.length_cons, ih.1], by rw [List.getD_cons_succ, ih.2]⟩
end
end Go.Vx.L58

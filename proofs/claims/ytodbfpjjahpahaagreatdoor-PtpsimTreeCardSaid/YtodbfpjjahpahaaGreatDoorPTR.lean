/- Lemmas of a small executor for the model, and contracts of functions, used for the law that this claim proves. No condition. -/
import Derived.Test.YtodbfpjjahpahaaGreatDoorPB
set_option linter.unusedSimpArgs false
set_option linter.unusedVariables false
set_option maxRecDepth 100000
namespace Go.Vx.L58
open Go Go.Proofs
/- The tree of the ways is that of the election. -/
theorem upW_peer (s : Scn) (v w : Int) : ∀ k i, i + k = s.l.length → (peerL (s.l.drop i) v w).2.2 = true → (upW s v w k i).p = (peerL (s.l.drop i) v w).1
 | 0, i, h, hp => by
  rw [List.drop_eq_nil_of_le (by omega)] at hp
  simp [peerL] at hp
 | k + 1, i, h, hp => by
  rw [drop_cons s.l i ed0 (by omega)] at hp ⊢
  rw [upW]
  unfold peerL at hp ⊢
  by_cases c1 : (s.l.getD i ed0).a = v ∧ (s.l.getD i ed0).pa = w
  ·rw [if_pos c1, if_pos c1]
  ·rw [if_neg c1, if_neg c1]
   rw [if_neg c1] at hp
   by_cases c2 : (s.l.getD i ed0).b = v ∧ (s.l.getD i ed0).pb = w
   ·rw [if_pos c2, if_pos c2]
   ·rw [if_neg c2, if_neg c2]
    rw [if_neg c2] at hp
    exact upW_peer s v w k (i + 1) (by omega) hp
theorem upW_edge (s : Scn) (v w : Int) : ∀ k i, i + k ≤ s.l.length → 0 ≤ (upW s v w k i).p → ∃ j, j < s.l.length ∧ (((s.l.getD j ed0).a = v ∧ (s.l.getD j ed0).b = (upW s v w k i).p) ∨ ((s.l.getD j ed0).b = v ∧ (s.l.getD j ed0).a = (upW s v w k i).p))
 | 0, i, _, hp => by simp [upW] at hp
 | k + 1, i, h, hp => by
  rw [upW] at hp ⊢
  split at hp
  ·rename_i c1
   rw [if_pos c1]
   exact ⟨i, by omega, .inl ⟨c1.1, rfl⟩⟩
  ·rename_i c1
   rw [if_neg c1]
   split at hp
   ·rename_i c2
    rw [if_pos c2]
    exact ⟨i, by omega, .inr ⟨c2.1, rfl⟩⟩
   ·rename_i c2
    rw [if_neg c2]
    exact upW_edge s v w k (i + 1) (by omega) hp
theorem brK_none (s : Scn) (C : List Int) (x : Nat) : ∀ k, (∀ i, i < k → C.getD i 0 ≠ 6) → brK s C x k = bm
 | 0, _ => rfl
 | k + 1, h => by
  rw [brK, if_neg (h k (by omega))]
  exact brK_none s C x k fun i hi => h i (by omega)
theorem brK_one (s : Scn) (C : List Int) (x b : Nat) : ∀ k, b < k → (∀ i, i < k → (C.getD i 0 = 6 ↔ i = b)) → brK s C x k = upF s x ((b : Int) + 1)
 | 0, hb, _ => by omega
 | k + 1, hb, h => by
  rw [brK]
  by_cases e : k = b
  ·subst e
   rw [if_pos ((h k (by omega)).2 rfl)]
  ·rw [if_neg (fun h' => e ((h k (by omega)).1 h'))]
   exact brK_one s C x b k (by omega) fun i hi => h i (by omega)
section
variable {s : Scn}
abbrev gS (s : Scn) : NetP := netP s.ns s.l
abbrev mS (s : Scn) : Mem := (gS s).run (fun _ _ => none) s.ns.length
theorem cdS_cod (ok : SOk s) (hc : ckS s = 0) (x i : Nat) (hi : i < 8) : (cdS s x).getD i 0 = (gS s).cod (mS s) x i := by
 obtain ⟨hN, _, _, _⟩ := sc_parts ok hc
 have hV := vs_run hN (sok_ent (ns := s.ns) (l := s.l) (ms := []) (by rfl) (fun m h => by cases h)) ((s.ns.length : Int)).toNat
 have hm : memOf (entS (lastM s)) = mS s := by
  show memOf (entS (lxA (rsN s.ns s.l) ((netP s.ns s.l).run (memOf (entS [])) (s.ns.length : Int).toNat) s.ns.length)) = _
  rw [memOf_lx hN hV, memOf_nil, Int.toNat_natCast]
 unfold cdS
 rw [hrX_hrd, hm]
 show (codP _ (hrd (mS s) x) (hrd (mS s) x).length).getD i 0 = _
 rw [hrd_len, codP_get _ _ _ _ hi]
 rfl
theorem cod_self {G : NetP} {M : Mem} {x : Nat} (h : selfD (G.ow x) (hrd M x) = true) (i : Nat) : G.cod M x i ≠ 6 := by
 unfold NetP.cod codD
 rw [if_pos h]; decide
theorem cod_other {G : NetP} {M : Mem} {x b : Nat} (h : selfD (G.ow x) (hrd M x) = false) (e1 : bstL (hrd M x) = b) (i : Nat) : G.cod M x i = 6 ↔ i = b := by
 unfold NetP.cod codD
 rw [if_neg (by rw [h]; simp), e1]
 by_cases hib : i = b
 ·rw [if_pos (by rw [hib])]; exact ⟨fun _ => hib, fun _ => rfl⟩
 ·rw [if_neg (by omega)]
  refine ⟨fun h => ?_, fun h => absurd h hib⟩
  split at h <;> cases h
theorem trS_get (s : Scn) {x : Nat} (hx : x < s.ns.length) : (trS s).getD x br0 = brK s (cdS s x) x 8 := by
 show (trI s s.ns.length s.ns.length 0).getD x br0 = _
 unfold trI
 rw [mapR_get _ _ _ _ hx, if_pos hx]
/-- A node's parent is one step nearer to the master. -/
theorem par_step (ok : SOk s) (hc : ckS s = 0) {m x k : Nat} (hm : (gS s).Best (dsN s.ns s.l) m) (hx : x < s.ns.length) (hd : dsN s.ns s.l m x = k) :
  (k = 0 → ((trS s).getD x br0).p = -1) ∧ (0 < k → ∃ y : Nat, y < s.ns.length ∧ ((trS s).getD x br0).p = y ∧ dsN s.ns s.l m y + 1 = k) := by
 obtain ⟨hN, hn, _, _⟩ := sc_parts ok hc
 have hG := netOK hN
 have hD := dst_ok hN
 have hlt := dst_lt_n hG hD hm.1 (y := x) hx
 have hnn : (gS s).n = s.ns.length := rfl
 have hnn2 : (netP s.ns s.l).n = s.ns.length := rfl
 have hS := starts hG hD hm (x := x) (k := k) (t := s.ns.length) hx (by omega) hd (by omega)
 rw [trS_get s hx]
 rcases hS with ⟨rfl, hs, _⟩ | ⟨h0, hs, hf6, hst⟩
 ·refine ⟨fun _ => ?_, fun h => by omega⟩
  rw [brK_none s _ x 8 fun i hi => by rw [cdS_cod ok hc x i hi]; exact cod_self hs i]
 ·refine ⟨fun h => by omega, fun _ => ?_⟩
  rcases fol_cases (gS s) (mS s) x with ⟨e, _⟩ | ⟨_, b, e1, e2, e3, ⟨a, e4⟩, _⟩
  ·rw [hs] at e; cases e
  have hgood := good_run hG hD (M := fun _ _ => none) (fun x p a d h => by cases h) s.ns.length x (b + 1) a _ e4
  rcases good_master hG hD hm (by rw [hd]; omega) hgood with h | ⟨_, y, q, hp, h1, h2⟩
  ·unfold ltM at h
   rw [show ((gS s).fol (mS s) x).mk6 = ((gS s).ow m).mk6 from hf6, lexB_irr] at h; cases h
  obtain ⟨⟨_, hy⟩, _, _, _, hb⟩ := hG.pe_ok _ _ _ _ hp
  have hed := hD.edge m y q x (b + 1) hm.1 hb h1
  have hst' : ((gS s).fol (mS s) x).st + 1 = k := hst
  refine ⟨y, hy, ?_, by rw [hd] at hed; omega⟩
  rw [brK_one s _ x b 8 e2 fun i hi => by rw [cdS_cod ok hc x i hi]; exact cod_other hs e1 i]
  have hpe : (if (peerF s.ns.length s.l x ((b + 1 : Nat) : Int)).2.2 = true then some ((peerF s.ns.length s.l x ((b + 1 : Nat) : Int)).1.toNat, (peerF s.ns.length s.l x ((b + 1 : Nat) : Int)).2.1.toNat) else none) = some (y, q) := hp
  have hck := hN.parts.1
  have hpF : peerF s.ns.length s.l x ((b + 1 : Nat) : Int) = peerL s.l x ((b + 1 : Nat) : Int) := peerF_of hck (a := (x : Int)) (by omega) (by omega) _
  by_cases ht : (peerF s.ns.length s.l x ((b + 1 : Nat) : Int)).2.2 = true
  ·rw [if_pos ht] at hpe
   simp only [Option.some.injEq, Prod.mk.injEq] at hpe
   obtain ⟨y', q', hf, _⟩ := pe_full hck hx ht
   have hu := upW_peer s x ((b + 1 : Nat) : Int) s.l.length 0 (by omega) (by rw [List.drop_zero, ← hpF]; exact ht)
   rw [List.drop_zero, ← hpF, hf] at hu
   rw [hf] at hpe
   have : ((b : Int) + 1) = ((b + 1 : Nat) : Int) := by omega
   rw [this]
   show (upW s x ((b + 1 : Nat) : Int) s.l.length 0).p = _
   rw [hu]
   simp only at hpe ⊢
   omega
  ·rw [if_neg ht] at hpe; cases hpe
/-- Two nodes that an edge joins. -/
def AdjS (s : Scn) (x y : Int) : Prop := ∃ j, j < s.l.length ∧ (((s.l.getD j ed0).a = x ∧ (s.l.getD j ed0).b = y) ∨ ((s.l.getD j ed0).b = x ∧ (s.l.getD j ed0).a = y))
theorem brK_edge (s : Scn) (C : List Int) (x : Nat) : ∀ k, 0 ≤ (brK s C x k).p → AdjS s x (brK s C x k).p
 | 0, h => by simp [brK] at h
 | k + 1, h => by
  rw [brK] at h ⊢
  split at h
  ·rename_i c
   rw [if_pos c]
   exact upW_edge s _ _ _ _ (by omega) h
  ·rename_i c
   rw [if_neg c]
   exact brK_edge s C x k h
theorem clF_adj {t : List Br} {A : Int → Int → Prop} (hA : ∀ x, x < t.length → 0 ≤ (t.getD x br0).p → A x (t.getD x br0).p) (hT : TrOK t) : ∀ k x, x < t.length → ∀ j, j + 1 < (clF t k x).length → A ((clF t k x).getD j 0) ((clF t k x).getD (j + 1) 0)
 | 0, x, _, j, h => by simp [clF] at h
 | k + 1, x, hx, j, h => by
  rw [clF] at h ⊢
  by_cases hp : 0 ≤ (t.getD x br0).p
  ·rw [if_pos hp] at h ⊢
   have hpl := hT.2 x hx
   have hhd : ∀ k y, (clF t k y).getD 0 0 = (y : Int) := fun k y => by cases k <;> simp [clF]
   cases j with
   | zero =>
    have e := hhd k (t.getD x br0).p.toNat
    rw [List.getD_cons_zero, List.getD_cons_succ, e, Int.toNat_of_nonneg hp]
    exact hA x hx hp
   | succ j =>
    rw [List.getD_cons_succ, List.getD_cons_succ]
    exact clF_adj hA hT k _ (by omega) j (by simp only [List.length_cons] at h; omega)
  ·rw [if_neg hp] at h; simp at h
theorem clF_hd (t : List Br) (k x : Nat) : (clF t k x).getD 0 0 = (x : Int) := by cases k <;> simp [clF]
theorem clF_way (ok : SOk s) (hc : ckS s = 0) {m : Nat} (hm : (gS s).Best (dsN s.ns s.l) m) : ∀ (k f x : Nat), k ≤ f → x < s.ns.length → dsN s.ns s.l m x = k → (clF (trS s) f x).length = k + 1 ∧ (clF (trS s) f x).getD k 0 = (m : Int)
 | 0, f, x, _, hx, hd => by
  obtain ⟨hN, hn, _, _⟩ := sc_parts ok hc
  have hp := (par_step ok hc hm hx hd).1 rfl
  have hmx : x = m := (dst_ok hN).zeq m x hm.1 hx (by rw [hd]; rfl)
  subst hmx
  cases f with
  | zero => exact ⟨rfl, rfl⟩
  | succ f =>
   rw [clF, if_neg (by rw [hp]; decide)]
   exact ⟨rfl, rfl⟩
 | k + 1, 0, x, h, _, _ => by omega
 | k + 1, f + 1, x, h, hx, hd => by
  obtain ⟨y, hy, hp, hdy⟩ := (par_step ok hc hm hx hd).2 (by omega)
  have ih := clF_way ok hc hm k f y (by omega) hy (by omega)
  rw [clF, if_pos (by rw [hp]; omega), hp, Int.toNat_natCast]
  exact ⟨by rw [List.length_cons, ih.1], by rw [List.getD_cons_succ, ih.2]⟩
theorem exL_get (ns : List Nd) (l : List Ed) : ∀ x i, i < x → (exL ns l x).getD i ch0 = ⟨((exC ns l i ns.length).1 : Int), (exC ns l i ns.length).2⟩
 | 0, i, h => absurd h (Nat.not_lt_zero _)
 | x + 1, i, h => by
  have hl := exL_len ns l x
  rw [exL, List.getD_eq_getElem?_getD]
  by_cases hx : i < x
  ·rw [List.getElem?_append_left (by omega), ← List.getD_eq_getElem?_getD, exL_get ns l x i hx]
  ·obtain rfl : i = x := by omega
   rw [List.getElem?_append_right (by omega), hl, Nat.sub_self]; rfl
/-- The law of the tree. -/
theorem tree_law (ok : SOk s) (hc : ckS s = 0) {v : Nat} (hv : v < s.ns.length) :
  ((clF (trS s) (s.ns.length - 1) v).length : Int) = ((exL s.ns s.l s.ns.length).getD v ch0).s + 1 ∧
  (clF (trS s) (s.ns.length - 1) v).getD ((clF (trS s) (s.ns.length - 1) v).length - 1) 0 = ((exL s.ns s.l s.ns.length).getD v ch0).m ∧
  (clF (trS s) (s.ns.length - 1) v).getD 0 0 = (v : Int) ∧
  ∀ j, j + 1 < (clF (trS s) (s.ns.length - 1) v).length → AdjS s ((clF (trS s) (s.ns.length - 1) v).getD j 0) ((clF (trS s) (s.ns.length - 1) v).getD (j + 1) 0) := by
 obtain ⟨hN, hn, _, _⟩ := sc_parts ok hc
 have hG := netOK hN
 have hD := dst_ok hN
 obtain ⟨h1, h2, h3⟩ := best_of_exp hG hD (dst_symm hN) (x := v) hv
 have h4 := dst_lt_n hG hD h1.1 (y := v) hv
 have hnn : (gS s).n = s.ns.length := rfl
 have hnn2 : (netP s.ns s.l).n = s.ns.length := rfl
 have hex : (exL s.ns s.l s.ns.length).getD v ch0 = ⟨((expX (gS s).ow (dsN s.ns s.l v) v (gS s).n).1 : Int), (expX (gS s).ow (dsN s.ns s.l v) v (gS s).n).2⟩ := exL_get s.ns s.l s.ns.length v hv
 rw [hex]
 generalize expX (gS s).ow (dsN s.ns s.l v) v (gS s).n = c at *
 obtain ⟨k, hk⟩ := Int.eq_ofNat_of_zero_le h3
 have hw := clF_way ok hc h1 k (s.ns.length - 1) v (by rw [hk] at h4; omega) hv hk
 have hT := trS_ok ok hc
 have hTl : (trS s).length = s.ns.length := trI_len ..
 refine ⟨?_, ?_, clF_hd .., clF_adj (A := AdjS s) (fun x hx hp => ?_) hT _ v (by omega)⟩
 ·show ((clF (trS s) (s.ns.length - 1) v).length : Int) = c.2 + 1
  rw [hw.1, h2, hk]; omega
 ·rw [hw.1, Nat.add_sub_cancel, hw.2]
 ·rw [trS_get s (by omega)] at hp ⊢
  exact brK_edge s _ x 8 hp
end
end Go.Vx.L58

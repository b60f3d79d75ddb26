/- Lemmas of a small executor for the model, and contracts of functions, used for the law that this claim proves. No condition. -/
import Derived.Test.YtodbfpjjahpahaaGreatDoorDW3
import Derived.Test.YtodbfpjjahpahaaGreatDoorDPB
import Derived.Test.YtodbfpjjahpahaaGreatDoorDP15
set_option linter.unusedSimpArgs false
set_option linter.unusedVariables false
set_option maxRecDepth 100000
namespace Go.Vx.L58
open Go Go.Proofs
theorem ckS1_all (s : Scn) : ∀ (k i : Nat), ckS1 s k i = 0 → ∀ j, i ≤ j → j < i + k → ckO (s.os.getD j os0) = 0 ∧ dly (s.st.getD j 0) = true
 | 0, i, _, j, h1, h2 => by omega
 | k + 1, i, h, j, h1, h2 => by
  rw [ckS1] at h
  by_cases c1 : ckO (s.os.getD i os0) = 0
  ·rw [if_neg (by omega)] at h
   by_cases c2 : dly (s.st.getD i 0) = true
   ·rw [if_neg (by rw [c2]; simp)] at h
    by_cases e : j = i
    ·subst e; exact ⟨c1, c2⟩
    ·exact ckS1_all s k (i + 1) h j (by omega) (by omega)
   ·rw [if_pos (by simpa using c2)] at h; omega
  ·rw [if_pos c1] at h; exact absurd h c1
theorem ckS2_all (s : Scn) : ∀ (k i : Nat), ckS2 s k i = 0 → ∀ j, i ≤ j → j < i + k → dly (s.dn.getD j 0) = true ∧ dly (s.up.getD j 0) = true
 | 0, i, _, j, h1, h2 => by omega
 | k + 1, i, h, j, h1, h2 => by
  rw [ckS2] at h
  by_cases c1 : dly (s.dn.getD i 0) = false ∨ dly (s.up.getD i 0) = false
  ·rw [if_pos c1] at h; omega
  ·rw [if_neg c1] at h
   by_cases e : j = i
   ·subst e
    exact ⟨by cases hd : dly (s.dn.getD j 0) with | true => rfl | false => exact absurd (.inl hd) c1, by cases hd : dly (s.up.getD j 0) with | true => rfl | false => exact absurd (.inr hd) c1⟩
   ·exact ckS2_all s k (i + 1) h j (by omega) (by omega)
theorem dly_iff {n : Int} (h : dly n = true) : 0 ≤ n ∧ n ≤ 10000000000 := of_decide_eq_true h
theorem ckOK {s : Scn} (ok : SOk s) (hc : ckS s = 0) : CkOK s := by
 obtain ⟨_, hn, _, _⟩ := sc_parts ok hc
 obtain ⟨_, ⟨L1, L2, L3, L4, L5⟩, h1, h2⟩ := ckS_parts hc
 exact ⟨fun x hx => (ckS1_all s _ 0 h1 x (Nat.zero_le _) (by omega)).1, fun x hx => dly_iff (ckS1_all s _ 0 h1 x (Nat.zero_le _) (by omega)).2, by omega, by omega⟩
theorem upW_d {s : Scn} (hd : ∀ j, j < s.l.length → dly (s.dn.getD j 0) = true ∧ dly (s.up.getD j 0) = true) (v w : Int) : ∀ k i, i + k ≤ s.l.length → (0 ≤ (upW s v w k i).t ∧ (upW s v w k i).t ≤ 10000000000) ∧ (0 ≤ (upW s v w k i).b ∧ (upW s v w k i).b ≤ 10000000000)
 | 0, i, _ => by simp only [upW]; omega
 | k + 1, i, h => by
  have he := hd i (by omega)
  have h1 := dly_iff he.1
  have h2 := dly_iff he.2
  rw [upW]
  split
  ·simp only; omega
  ·split
   ·simp only; omega
   ·exact upW_d hd v w k (i + 1) (by omega)
theorem brK_d {s : Scn} (hd : ∀ j, j < s.l.length → dly (s.dn.getD j 0) = true ∧ dly (s.up.getD j 0) = true) (C : List Int) (i : Nat) : ∀ k, (0 ≤ (brK s C i k).t ∧ (brK s C i k).t ≤ 10000000000) ∧ (0 ≤ (brK s C i k).b ∧ (brK s C i k).b ≤ 10000000000)
 | 0 => by simp only [brK]; omega
 | k + 1 => by
  rw [brK]
  split
  ·exact upW_d hd _ _ _ _ (by omega)
  ·exact brK_d hd C i k
theorem trS_d {s : Scn} (hc : ckS s = 0) : ∀ i, (0 ≤ ((trS s).getD i br0).t ∧ ((trS s).getD i br0).t ≤ 10000000000) ∧ (0 ≤ ((trS s).getD i br0).b ∧ ((trS s).getD i br0).b ≤ 10000000000) := fun i => by
 obtain ⟨_, _, _, h2⟩ := ckS_parts hc
 have hd := fun j (hj : j < s.l.length) => ckS2_all s _ 0 h2 j (Nat.zero_le _) (by omega)
 by_cases h : i < s.ns.length
 ·have e : (trS s).getD i br0 = brK s (cdS s i) i 8 := by
   show (trI s s.ns.length s.ns.length 0).getD i br0 = _
   unfold trI
   rw [mapR_get _ _ _ _ h, if_pos h]
  rw [e]
  exact brK_d hd _ i 8
 ·have e : (trS s).getD i br0 = br0 := by
   show (trI s s.ns.length s.ns.length 0).getD i br0 = _
   unfold trI
   rw [mapR_out _ _ _ _ h]
  rw [e]
  exact ⟨⟨by decide, by decide⟩, ⟨by decide, by decide⟩⟩
def upL (s : Scn) (v : Nat) : List Int := clF (trS s) (s.ns.length - 1) v
def wyM (s : Scn) (v : Nat) : Nat := wM s.tr (upL s v)
def wyS (s : Scn) (v : Nat) : Wy := ⟨wN (upL s v) (wyM s v) (wyM s v + 1), wT (trS s) (upL s v) (wyM s v) (wyM s v), wB (trS s) (upL s v) (wyM s v) (wyM s v)⟩
theorem wyS_len (s : Scn) (v : Nat) : (wyS s v).N.length = wyM s v + 1 ∧ (wyS s v).T.length = wyM s v ∧ (wyS s v).B.length = wyM s v := ⟨rvF_len .., rvF_len .., rvF_len ..⟩
theorem upL_bd {s : Scn} (ok : SOk s) (hc : ckS s = 0) {v : Nat} (hv : v < s.ns.length) : (1 ≤ (upL s v).length ∧ (upL s v).length ≤ s.ns.length) ∧ ∀ i, i < (upL s v).length → 0 ≤ (upL s v).getD i 0 ∧ (upL s v).getD i 0 < s.ns.length := by
 obtain ⟨_, hn, _, _⟩ := sc_parts ok hc
 have hT := trS_ok ok hc
 have hTl : (trS s).length = s.ns.length := trI_len ..
 have h1 := clF_len (trS s) (s.ns.length - 1) v
 have h2 := fun i hi => clF_lt hT (s.ns.length - 1) v (by omega) _ (getD_mem (clF (trS s) (s.ns.length - 1) v) i 0 hi)
 rw [hTl] at h2
 exact ⟨by unfold upL; omega, h2⟩
theorem wyM_bd {s : Scn} (ok : SOk s) (hc : ckS s = 0) {v : Nat} (hv : v < s.ns.length) : wyM s v + 1 ≤ (upL s v).length := by
 have h := upL_bd ok hc hv
 unfold wyM wM
 omega
theorem rev_getD (l : List Int) (i : Nat) (h : i < l.length) : l.reverse.getD i 0 = l.getD (l.length - 1 - i) 0 := by
 rw [List.getD_eq_getElem?_getD, List.getElem?_reverse h, ← List.getD_eq_getElem?_getD]
theorem wyS_ok {s : Scn} (ok : SOk s) (hc : ckS s = 0) {v : Nat} (hv : v < s.ns.length) (hm : 0 < wyM s v) : WyOK s (wyS s v).N (wyS s v).T ∧ WyOK s (wyS s v).N.reverse (wyS s v).B.reverse := by
 obtain ⟨l1, l2, l3⟩ := wyS_len s v
 have hU := upL_bd ok hc hv
 have hM := wyM_bd ok hc hv
 obtain ⟨_, ⟨L1, L2, L3, L4, L5⟩, _, _⟩ := ckS_parts hc
 obtain ⟨_, hn, _, _⟩ := sc_parts ok hc
 have hd := trS_d hc
 have n1 : ∀ i, i < wyM s v + 1 → 0 ≤ (wyS s v).N.getD i 0 ∧ (wyS s v).N.getD i 0 < s.os.length := fun i hi => by
  have := rvF_get (fun i => (upL s v).getD i 0) (wyM s v) (wyM s v + 1) i hi
  have e : (wyS s v).N.getD i 0 = (upL s v).getD (wyM s v - i) 0 := this
  rw [e, L1]
  exact hU.2 _ (by omega)
 have t1 : ∀ i, i < wyM s v → 0 ≤ (wyS s v).T.getD i 0 ∧ (wyS s v).T.getD i 0 ≤ 10000000000 := fun i hi => by
  have := rvF_get (fun i => ((trS s).getD ((upL s v).getD (i - 1) 0).toNat br0).t) (wyM s v) (wyM s v) i hi
  have e : (wyS s v).T.getD i 0 = ((trS s).getD ((upL s v).getD (wyM s v - i - 1) 0).toNat br0).t := this
  rw [e]
  exact (hd _).1
 have b1 : ∀ i, i < wyM s v → 0 ≤ (wyS s v).B.getD i 0 ∧ (wyS s v).B.getD i 0 ≤ 10000000000 := fun i hi => by
  have := rvF_get (fun i => ((trS s).getD ((upL s v).getD (i - 1) 0).toNat br0).b) (wyM s v) (wyM s v) i hi
  have e : (wyS s v).B.getD i 0 = ((trS s).getD ((upL s v).getD (wyM s v - i - 1) 0).toNat br0).b := this
  rw [e]
  exact (hd _).2
 refine ⟨⟨by omega, by omega, by omega, fun i hi => n1 i (by omega), fun i hi => t1 i (by omega)⟩, ⟨?_, ?_, ?_, fun i hi => ?_, fun i hi => ?_⟩⟩
 ·rw [List.length_reverse, List.length_reverse]; omega
 ·rw [List.length_reverse]; omega
 ·rw [List.length_reverse]; omega
 ·rw [List.length_reverse] at hi
  rw [rev_getD _ _ hi]; exact n1 _ (by omega)
 ·rw [List.length_reverse] at hi
  rw [rev_getD _ _ hi]; exact b1 _ (by omega)
theorem measure_ok' (s : Scn) (hs : CkOK s) (hns : s.ns.length = s.os.length) (w : Wy) (m : Nat) (c1 c2 c3 : Option Nat) (l1 : w.N.length = m + 1) (l2 : w.T.length = m) (l3 : w.B.length = m) (hm : m ≤ 24) (hw : WyOK s w.N w.T) (hw' : WyOK s w.N.reverse w.B.reverse) (t : Int) (ht : 0 ≤ t ∧ t ≤ 562949953421312) :
  Runs Tryz.prog 22 [scA s, .agg [.sl 8 1 0 (m + 1) c1, .sl 9 1 0 m c2, .sl 10 1 0 m c3], .val (.int .i64 t)] [gB s.l, ndB s.ns, osB s.os s.hd, osR s.os s.hd, iB false s.dn, iB false s.up, blB s.tr, iB false s.st, .arr false 3 1 (m + 1) (intF w.N), .arr false 3 1 m (intF w.T), .arr false 3 1 m (intF w.B)]
   (Det (gpA (msF s w t)) [gB s.l, ndB s.ns, osB s.os s.hd, osR s.os s.hd, iB false s.dn, iB false s.up, blB s.tr, iB false s.st, .arr false 3 1 (m + 1) (intF w.N), .arr false 3 1 m (intF w.T), .arr false 3 1 m (intF w.B)]) := by
 have h := measure_ok s hs hns w c1 c2 c3 hw hw' (by omega) (by omega) t ht
 unfold wyA iB at h
 rw [l1, l2, l3] at h
 exact h
def rnG (s : Scn) (t : Int) (v : Nat) : Gp := if wyM s v = 0 then ⟨v, -1, 0, 0, 0, false⟩ else msF s (wyS s v) t
def rnI (s : Scn) (t : Int) (x : Nat) : List Gp := (List.range s.ns.length).map fun i => if i < x then rnG s t i else gp0
abbrev rnL (s : Scn) (t : Int) : List Gp := rnI s t s.ns.length
theorem rnI_len (s : Scn) (t : Int) (x : Nat) : (rnI s t x).length = s.ns.length := mapR_len ..
theorem rnI_0 (s : Scn) (t : Int) : rnI s t 0 = List.replicate s.ns.length gp0 := by
 refine List.ext_getElem (by simp [rnI]) fun k h1 h2 => ?_
 simp [rnI]
theorem rnI_upd (s : Scn) (t : Int) (x : Nat) (hx : x < s.ns.length) : (∀ k, k ≠ x → (rnI s t (x + 1)).getD k gp0 = (rnI s t x).getD k gp0) ∧ (rnI s t (x + 1)).getD x gp0 = rnG s t x := by
 refine ⟨fun k hk => ?_, ?_⟩
 ·by_cases h : k < s.ns.length
  ·unfold rnI
   rw [mapR_get _ _ _ _ h, mapR_get _ _ _ _ h]
   by_cases h2 : k < x
   ·rw [if_pos h2, if_pos (by omega)]
   ·rw [if_neg h2, if_neg (by omega)]
  ·unfold rnI
   rw [mapR_out _ _ _ _ h, mapR_out _ _ _ _ h]
 ·unfold rnI
  rw [mapR_get _ _ _ _ hx, if_pos (by omega)]
theorem gp_upd {ρ : Nat → Option Nat} {L L' : List Gp} {x n n' q : Nat} {g : Gp} {vs : List AV} (hq : q = x) (ho : ∀ k, k ≠ x → L'.getD k gp0 = L.getD k gp0) (hx : L'.getD x gp0 = g) (hv : ∀ j, j < 6 → sub ρ (nth (gpC g) j) (vs.getD j .dead)) (hn : n' = n) :
  BSub ρ (.arr true 41 6 n (rowF gpC gp0 L')) (.arr true 41 6 n' fun i' j' => bif Nat.beq i' q && (Nat.ble 0 j' && Nat.blt j' (0 + 6)) then vs.getD (j' - 0) .dead else rowF gpC gp0 L i' j') := by
 subst hq
 refine row_upd q (l := L) ho (fun j hj => ?_) (fun i hi j => ?_) hn
 ·rw [hx]
  have hb : (Nat.ble 0 j && Nat.blt j (0 + 6)) = true := by
   rw [Bool.and_eq_true]; exact ⟨Nat.ble_eq_true_of_le (Nat.zero_le _), Nat.ble_eq_true_of_le (by omega)⟩
  simp only [Nat.beq_refl, hb, Bool.and_self, cond_true]
  exact hv j hj
 ·rw [show Nat.beq i q = false from beq_ne hi]; rfl
set_option maxHeartbeats 8000000 in
theorem run_ok' (s : Scn) (ok : SOk s) (t : Int) :
  (ckS s ≠ 0 → Runs Tryz.prog 10 [scA s, .val (.int .i64 t)] (scB s) (Det (.tup [.val (.slice none 0 0), .val (.int .i64 (ckS s))]) (scB s))) ∧
  (ckS s = 0 → ¬ (0 ≤ t ∧ t ≤ 562949953421312) → Runs Tryz.prog 10 [scA s, .val (.int .i64 t)] (scB s) (Det (.tup [.val (.slice none 0 0), .val (.int .i64 3)]) (scB s))) ∧
  (ckS s = 0 → 0 ≤ t ∧ t ≤ 562949953421312 → Runs Tryz.prog 10 [scA s, .val (.int .i64 t)] (scB s) (Det (.tup [.sl 8 6 0 s.ns.length none, .val (.int .i64 0)]) [gB s.l, ndB s.ns, osB s.os s.hd, osR s.os s.hd, iB false s.dn, iB false s.up, blB s.tr, iB false s.st, .arr true 41 6 s.ns.length (rowF gpC gp0 (rnL s t))])) := by
 have hmx : maxLen = 9223372036854775807 := by decide
 have hn := ok.hn
 have hck := scheck_ok s ok
 refine ⟨fun hc => ?_, fun hc hv => ?_, fun hc hv => ?_⟩
 ·generalize ckS s = c at *
  refine Runs.mk tabOK Tryz.call10 Tryz.func10 rfl Tryz.ntmps10 Tryz.results10 rfl ?_
  (repeat' (first
  | (intro Q h; refine h ?_; clear h Q)
  | (refine bcase_mk (fun hb => ?_) (fun hb => ?_) <;> (try simp only [nS, nT, eq_self, reduceCtorEq] at hb) <;> (try (exfalso; omega)))
  | refine seq_go ?_
  | ((first | apply call_detx [some 0, some 1, some 2, some 3, some 4, some 5, some 6, some 7] (hck) ); exact AS; any_goals (apply nodup_mk; rfl))
  | (apply ret_mk [some 0, some 1, some 2, some 3, some 4, some 5, some 6, some 7]; exact AS; any_goals (apply okIx_mk; rfl))
  ))
 ·rw [hc] at hck
  refine Runs.mk tabOK Tryz.call10 Tryz.func10 rfl Tryz.ntmps10 Tryz.results10 rfl ?_
  (repeat' (first
  | (intro Q h; refine h ?_; clear h Q)
  | (refine bcase_mk (fun hb => ?_) (fun hb => ?_) <;> (try simp only [nS, nT, eq_self, reduceCtorEq] at hb) <;> (try (exfalso; omega)))
  | refine seq_go ?_
  | ((first | apply call_detx [some 0, some 1, some 2, some 3, some 4, some 5, some 6, some 7] (hck) ); exact AS; any_goals (apply nodup_mk; rfl))
  | (apply ret_mk [some 0, some 1, some 2, some 3, some 4, some 5, some 6, some 7]; exact AS; any_goals (apply okIx_mk; rfl))
  ))
 have htr := tree_ok s ok hc
 have hT := trS_ok ok hc
 have hTl : (trS s).length = s.ns.length := trI_len ..
 obtain ⟨_, ⟨L1, L2, L3, L4, L5⟩, _, _⟩ := ckS_parts hc
 obtain ⟨_, hn24, _, _⟩ := sc_parts ok hc
 have hcko := ckOK ok hc
 rw [hc] at hck
 have hwy := fun v (hv : v < s.ns.length) => wayof_ok s (trS s) hT (by omega) none v (by rw [hTl]; exact hv)
 unfold brB at hwy
 rw [hTl] at hwy
 have hwl := wyS_len s
 have hwb := fun v hv => wyM_bd ok hc (v := v) hv
 have hub := fun v hv => upL_bd ok hc (v := v) hv
 have hms := fun v (h1 : v < s.ns.length) h2 => measure_ok' s hcko (by omega) (wyS s v) (wyM s v) none none none (hwl v).1 (hwl v).2.1 (hwl v).2.2 (by have := hwb v h1; have := hub v h1; omega) (wyS_ok ok hc h1 h2).1 (wyS_ok ok hc h1 h2).2 t hv
 have hg : ∀ v, rnG s t v = if wyM s v = 0 then ⟨v, -1, 0, 0, 0, false⟩ else msF s (wyS s v) t := fun _ => rfl
 have hl0 := rnI_0 s t
 have hll := rnI_len s t
 have hlu := rnI_upd s t
 generalize hLL : rnI s t = L at *
 refine Runs.mk tabOK Tryz.call10 Tryz.func10 rfl Tryz.ntmps10 Tryz.results10 rfl ?_
 (repeat' (first
  | (intro Q h; refine h ?_; clear h Q)
  | (refine bcase_mk (fun hb => ?_) (fun hb => ?_) <;> (try simp only [nS, nT, eq_self, reduceCtorEq] at hb) <;> (try (exfalso; omega)))
  | refine seq_go ?_
  | refine And.intro (by first | omega | ((try simp only [wS]); omega) | rfl | decide) ?_
  | ((first | apply call_detx [some 0, some 1, some 2, some 3, some 4, some 5, some 6, some 7] (hck) ); exact AS; any_goals (apply nodup_mk; rfl))
  | ((first | apply call_detx [some 0, some 1, some 2, some 3, some 4, some 5, some 6, some 7] (htr) ); exact AS; any_goals (apply nodup_mk; rfl))
  ))
 refine loop_inv (σ := Nat) (fun x => x ≤ s.ns.length) (fun x => ⟨[(1, .val (.int .i64 t)), (2, .ptr 8 8 0 0), (7, .sl 9 3 0 s.ns.length none), (8, .sl 10 6 0 s.ns.length none), (28, .val (.int .i64 s.ns.length)), (29, .val (.int .i64 x))], [gB s.l, ndB s.ns, osB s.os s.hd, osR s.os s.hd, iB false s.dn, iB false s.up, blB s.tr, iB false s.st, .var (scV s), .arr true 95 3 s.ns.length (rowF brC br0 (trS s)), .arr true 41 6 s.ns.length (rowF gpC gp0 (L x))]⟩) (fun x => s.ns.length - x) (0) ?_ ?_ ?_
 ·omega
 ·rw [hl0]
  (apply le_mk [some 0, some 1, some 2, some 3, some 4, some 5, some 6, some 7, some 8, some 9, some 10]; (focus (iterate 2 (all_goals (repeat' (first | exact rows_same rfl rfl rfl rfl | exact os_same rfl rfl rfl rfl | exact subL_nil | exact trivial | (intro Q h; refine h ?_; clear h Q) | refine And.intro ?_ ?_ | refine subL_cons ?_ ?_ | refine var_mk ?_ | exact sub_ptr rfl rfl | exact sub_sl rfl rfl rfl | exact sub_refl_val _ _ | exact row_same rfl rfl rfl | exact row_ren rfl rfl rfl ))))); any_goals (apply okIx_mk; rfl))
  all_goals exact row_rep (x := gp0) (subL_cons (sub_int rfl) (subL_cons (sub_int rfl) (subL_cons (sub_int rfl) (subL_cons (sub_int rfl) (subL_cons (sub_int rfl) (subL_cons (sub_sbl rfl) subL_nil)))))) rfl rfl
 rintro v hv'
 by_cases hvl : v < s.ns.length
 ·have hz : 0 + Int.toNat (v : Int) = v := by omega
  have hwy := hwy v hvl
  obtain ⟨u1, u2⟩ := hlu v hvl
  rw [hg] at u2
  by_cases hm : wyM s v = 0
  ·rw [if_pos hm] at u2
   have hm' : wM s.tr (clF (trS s) (s.ns.length - 1) v) = 0 := hm
   rw [hm'] at hwy
   (repeat' (first
  | (intro Q h; refine h ?_; clear h Q)
  | (refine bcase_mk (fun hb => ?_) (fun hb => ?_) <;> (try simp only [nS, nT, eq_self, reduceCtorEq] at hb) <;> (try (exfalso; omega)))
  | refine seq_go ?_
  | refine And.intro (by first | omega | ((try simp only [wS]); omega) | rfl | decide) ?_
  | ((first | apply call_detx [some 0, some 1, some 2, some 3, some 4, some 5, some 6, some 7, some 9] (hwy) ); exact AS; any_goals (apply nodup_mk; rfl))
  | (apply next_sub (Subtype.mk (v + 1) _); (focus (apply le_mk [some 0, some 1, some 2, some 3, some 4, some 5, some 6, some 7, some 8, some 9, some 10]; (focus (iterate 2 (all_goals (repeat' (first | exact rows_same rfl rfl rfl rfl | exact os_same rfl rfl rfl rfl | exact subL_nil | exact trivial | (intro Q h; refine h ?_; clear h Q) | refine And.intro ?_ ?_ | refine subL_cons ?_ ?_ | refine var_mk ?_ | exact sub_ptr rfl rfl | exact sub_sl rfl rfl rfl | exact sub_refl_val _ _ | exact row_same rfl rfl rfl | ((refine sub_int ?_); first | with_reducible rfl | omega | ((try simp only [wS]); omega) | rfl) ))))); any_goals (apply okIx_mk; rfl))); (all_goals (try (first | omega | (simp only; omega)))))
  ))
   all_goals exact gp_upd (by omega) u1 u2 (cells_succ (sub_int rfl) (cells_succ (sub_int rfl) (cells_succ (sub_int rfl) (cells_succ (sub_int rfl) (cells_succ (sub_int rfl) (cells_succ (sub_sbl rfl) cell0)))))) rfl
  ·rw [if_neg hm] at u2
   have hms := hms v hvl (by omega)
   have hm0 : 0 < wyM s v := by omega
   have e1 : wM s.tr (clF (trS s) (s.ns.length - 1) v) = wyM s v := rfl
   have e2 : wN (clF (trS s) (s.ns.length - 1) v) (wyM s v) (wyM s v + 1) = (wyS s v).N := rfl
   have e3 : wT (trS s) (clF (trS s) (s.ns.length - 1) v) (wyM s v) (wyM s v) = (wyS s v).T := rfl
   have e4 : wB (trS s) (clF (trS s) (s.ns.length - 1) v) (wyM s v) (wyM s v) = (wyS s v).B := rfl
   rw [e1, e2, e3, e4] at hwy
   generalize msF s (wyS s v) t = G at *
   generalize wyS s v = W at *
   generalize wyM s v = M at *
   (repeat' (first
  | (intro Q h; refine h ?_; clear h Q)
  | (refine bcase_mk (fun hb => ?_) (fun hb => ?_) <;> (try simp only [nS, nT, eq_self, reduceCtorEq] at hb) <;> (try (exfalso; omega)))
  | refine seq_go ?_
  | refine And.intro (by first | omega | ((try simp only [wS]); omega) | rfl | decide) ?_
  | ((first | apply call_detx [some 0, some 1, some 2, some 3, some 4, some 5, some 6, some 7, some 9] (hwy) ); exact AS; any_goals (apply nodup_mk; rfl))
  | ((first | apply call_detx [some 0, some 1, some 2, some 3, some 4, some 5, some 6, some 7, some _, some _, some _] (hms) ); exact AS; any_goals (apply nodup_mk; rfl))
  | (apply next_sub (Subtype.mk (v + 1) _); (focus (apply le_mk [some 0, some 1, some 2, some 3, some 4, some 5, some 6, some 7, some 8, some 9, some 10]; (focus (iterate 2 (all_goals (repeat' (first | exact rows_same rfl rfl rfl rfl | exact os_same rfl rfl rfl rfl | exact subL_nil | exact trivial | (intro Q h; refine h ?_; clear h Q) | refine And.intro ?_ ?_ | refine subL_cons ?_ ?_ | refine var_mk ?_ | exact sub_ptr rfl rfl | exact sub_sl rfl rfl rfl | exact sub_refl_val _ _ | exact row_same rfl rfl rfl | ((refine sub_int ?_); first | with_reducible rfl | omega | ((try simp only [wS]); omega) | rfl) ))))); any_goals (apply okIx_mk; rfl))); (all_goals (try (first | omega | (simp only; omega)))))
  ))
   all_goals exact gp_upd (by omega) u1 u2 (cells_succ (sub_int rfl) (cells_succ (sub_int rfl) (cells_succ (sub_int rfl) (cells_succ (sub_int rfl) (cells_succ (sub_int rfl) (cells_succ (sub_sb rfl) cell0)))))) rfl
 ·obtain rfl : v = s.ns.length := by omega
  (repeat' (first
  | (intro Q h; refine h ?_; clear h Q)
  | (refine bcase_mk (fun hb => ?_) (fun hb => ?_) <;> (try simp only [nS, nT, eq_self, reduceCtorEq] at hb) <;> (try (exfalso; omega)))
  | (apply ret_mk [some 0, some 1, some 2, some 3, some 4, some 5, some 6, some 7, some 10]; (focus (iterate 2 (all_goals (repeat' (first | exact rows_same rfl rfl rfl rfl | exact os_same rfl rfl rfl rfl | exact subL_nil | exact trivial | (intro Q h; refine h ?_; clear h Q) | refine And.intro ?_ ?_ | refine subL_cons ?_ ?_ | refine sub_tup ?_ | exact sub_sl rfl rfl rfl | exact sub_refl_val _ _ | exact row_same rfl rfl rfl | ((first | show (_ : Nat) = _); first | with_reducible rfl | omega | ((try simp only [wS]); omega) | rfl) | refine row_same rfl ?_ ?_ ))))); any_goals (apply okIx_mk; rfl))
  ))
  all_goals (rw [← hLL])
end Go.Vx.L58

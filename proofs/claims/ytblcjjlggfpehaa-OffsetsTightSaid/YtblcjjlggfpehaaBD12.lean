/- Lemmas of a small executor for the model, and contracts of functions, used for the law that this claim proves. No condition. -/
import Derived.Test.YtblcjjlggfpehaaBD11
import Derived.Test.YtblcjjlggfpehaaBC39
set_option linter.unusedSimpArgs false
set_option linter.unusedVariables false
set_option maxRecDepth 100000
namespace Go.Vx.L53
open Go Go.Proofs
theorem ordL_ne : ∀ (r pre : List En), ordL pre r ≠ 20
  | [], pre => by simp [ordL]
  | e :: r, pre => by
    unfold ordL
    split
    · decide
    · split
      · decide
      · exact ordL_ne r _
theorem firstE_ne : ∀ l : List En, firstE l ≠ 20
  | [] => by simp [firstE]
  | e :: r => by
    unfold firstE
    split
    · exact firstE_ne r
    · rcases oneE_is e with ⟨_, h⟩ | ⟨_, _, h⟩ | ⟨_, _, _, h⟩ | ⟨_, _, _, h⟩ <;> rw [h] <;> decide
theorem lchk_ne (l : List En) : lchk l ≠ 20 := by
  unfold lchk
  split
  · decide
  · split
    · exact ordL_ne _ _
    · exact firstE_ne l
theorem confE_ne (c : Cf) : confE c ≠ 20 := by
  unfold confE
  repeat' split
  all_goals decide
theorem sysE_ne (l : List En) (c : Cf) : sysE l c ≠ 20 := by
  unfold sysE
  split
  · exact lchk_ne l
  split
  · decide
  split
  · exact confE_ne c
  split <;> decide
theorem blO_20 (l : List En) (c : Cf) : blO l c = decide (ofE l c = 20) := by
  unfold blO
  by_cases h : sysE l c = 0
  · rw [decide_eq_true h, Bool.true_and]
    cases hc : cyc (sysA l c) (l.length + 1) with
    | false => rw [of_of h hc]; rfl
    | true =>
      rcases of_cases h with g | g
      · have := (of_sys g).2.1
        rw [hc] at this; cases this
      · rw [g]; rfl
  · have e : ofE l c = sysE l c := by unfold ofE; rw [if_pos h]
    rw [decide_eq_false h, e, decide_eq_false (sysE_ne l c)]; rfl
theorem conB_pot {l : List En} {c : Cf} {t : List Int} (h : conB l c t = true) : sysE l c = 0 ∧ t.length = l.length ∧ tmOK t ∧ pot (sysA l c) fun v => (0 :: t).getD v 0 := by
  unfold conB hldB at h
  rw [Bool.and_eq_true, decide_eq_true_eq, decide_eq_true_eq] at h
  obtain ⟨⟨h1, h2, h3⟩, h4⟩ := h
  exact ⟨h1, h2, h3, fun d hd => (h4 d hd).2.2⟩
theorem conB_of0 {l : List En} {c : Cf} {t : List Int} (h : conB l c t = true) : ofE l c = 0 := by
  obtain ⟨h1, _, _, h4⟩ := conB_pot h
  exact of_of h1 ((cyc_iff (by omega) (sysA_ok h1)).2 ⟨_, h4⟩)
theorem ofA_get {l : List En} {c : Cf} (h0 : ofE l c = 0) {i : Nat} (hi : i < l.length) : ((ofA l c).getD i iv0).lo = (if mg (fw (l.length + 1) (sysA l c)) 0 (i + 1) = NN then -8000000000000000000 else (l.getD i en0).c - mg (fw (l.length + 1) (sysA l c)) 0 (i + 1)) ∧
    ((ofA l c).getD i iv0).hi = (if mg (fw (l.length + 1) (sysA l c)) (i + 1) 0 = NN then 8000000000000000000 else (l.getD i en0).c + mg (fw (l.length + 1) (sysA l c)) (i + 1) 0) := by
  obtain ⟨h1, h2, ⟨y, hs⟩, h4⟩ := of_sys h0
  rw [h4, iv_get _ _ hi]
  exact iv_vals h1 hs hi
theorem con_in {l : List En} {c : Cf} {t : List Int} (h : conB l c t = true) {i : Nat} (hi : i < l.length) : ((ofA l c).getD i iv0).lo ≤ (l.getD i en0).c - t.getD i 0 ∧ (l.getD i en0).c - t.getD i 0 ≤ ((ofA l c).getD i iv0).hi := by
  have h0 := conB_of0 h
  obtain ⟨h1, h2, h3, h4⟩ := conB_pot h
  obtain ⟨_, _, ⟨y, hs⟩, _⟩ := of_sys h0
  obtain ⟨a1, a2⟩ := ofA_get h0 hi
  obtain ⟨_, _, _, g1, g2⟩ := lchk_rg (sys_zero h1).1 hi
  have hinv := fw_inv hs
  have ht := h3 _ (getD_mem t i 0 (by omega))
  rw [a1, a2]
  constructor
  · split
    · omega
    · rename_i hn
      have := wk_pot h4 (hinv.snd 0 (i + 1) (by omega) (by omega) hn)
      simp only [List.getD_cons_succ, List.getD_cons_zero] at this
      omega
  · split
    · omega
    · rename_i hn
      have := wk_pot h4 (hinv.snd (i + 1) 0 (by omega) (by omega) hn)
      simp only [List.getD_cons_succ, List.getD_cons_zero] at this
      omega
theorem wi_rg (l : List En) {i : Nat} (hi : i < l.length) (b : Bool) : (0 ≤ wiA i b ∧ wiA i b < (l.length : Int) + 1) ∧ (0 ≤ wiB i b ∧ wiB i b < (l.length : Int) + 1) := by
  cases b <;> simp only [wiA, wiB, cond_true, cond_false] <;> omega
theorem wiE_is {l : List En} {c : Cf} (h0 : ofE l c = 0) {i : Nat} (hi : i < l.length) (b : Bool) : wiE l c i b = if mg (fw (l.length + 1) (sysA l c)) (wiA i b).toNat (wiB i b).toNat = NN then 11 else 0 := by
  obtain ⟨h1, h2, _, _⟩ := of_sys h0
  have hN := sysN_is h1
  have hr := wi_rg l hi b
  unfold wiE
  rw [if_neg (not_not_intro h1), if_neg (not_not_intro ⟨by omega, by omega⟩)]
  unfold tgE
  rw [if_neg (not_not_intro (sys_cchk h1)), hN, if_neg (not_not_intro hr), show ((l.length : Int) + 1).toNat = l.length + 1 by omega, h2, if_neg Bool.false_ne_true]
  rfl
theorem wiX_bd {l : List En} {c : Cf} (h0 : ofE l c = 0) {i : Nat} (hi : i < l.length) (b : Bool) {j : Nat} (hj : j < l.length + 1) : -(5629499534213120 * 159) ≤ (wiX l c i b).getD j 0 ∧ (wiX l c i b).getD j 0 ≤ 5629499534213120 * 319 := by
  obtain ⟨h1, h2, _, _⟩ := of_sys h0
  have hr := wi_rg l hi b
  have := (sys_zero h1).2.1
  exact tgX_bd ⟨by omega, by omega⟩ (sysA_ok h1) (fun d hd => (sysA_W h1 d hd).2.2) h2 (by omega) hj
theorem wiL_get {l : List En} {c : Cf} (h0 : ofE l c = 0) {i : Nat} (hi : i < l.length) {b : Bool} (hE : wiE l c i b = 0) : (wiL l c i b).length = l.length ∧ ∀ j, j < l.length → (wiL l c i b).getD j 0 = (wiX l c i b).getD (j + 1) 0 - (wiX l c i b).getD 0 0 := by
  unfold wiL
  rw [if_pos hE]
  refine ⟨by simp, fun j hj => ?_⟩
  have a1 := wiX_bd h0 hi b (show j + 1 < l.length + 1 by omega)
  have a2 := wiX_bd h0 hi b (show 0 < l.length + 1 by omega)
  rw [List.getD_eq_getElem?_getD, List.getElem?_map, List.getElem?_range hj]
  exact cwrap (by omega) (by omega)
theorem wiL_con {l : List En} {c : Cf} (h0 : ofE l c = 0) {i : Nat} (hi : i < l.length) {b : Bool} (hE : wiE l c i b = 0) : conB l c (wiL l c i b) = true := by
  obtain ⟨h1, h2, _, _⟩ := of_sys h0
  obtain ⟨g1, g2⟩ := wiL_get h0 hi hE
  have hr := wi_rg l hi b
  have h159 := (sys_zero h1).2.1
  have hp := tgX_pot ⟨by omega, by omega⟩ (sysA_ok h1) h2 (show (wiA i b).toNat < l.length + 1 by omega)
  have hx : ∀ v, v < l.length + 1 → (0 :: wiL l c i b).getD v 0 = (wiX l c i b).getD v 0 - (wiX l c i b).getD 0 0 := fun v hv => by
    rcases v with _ | v
    · simp
    · rw [List.getD_cons_succ, g2 v (by omega)]
  unfold conB hldB
  rw [Bool.and_eq_true, decide_eq_true_eq, decide_eq_true_eq]
  refine ⟨⟨h1, g1, fun x hx => ?_⟩, fun d hd => ?_⟩
  · obtain ⟨j, hj, rfl⟩ := mem_get (d := 0) hx
    rw [g1] at hj
    rw [g2 j hj]
    have a1 := wiX_bd h0 hi b (show j + 1 < l.length + 1 by omega)
    have a2 := wiX_bd h0 hi b (show 0 < l.length + 1 by omega)
    exact ⟨by omega, by omega⟩
  · obtain ⟨⟨a0, a1⟩, ⟨b0, b1⟩, _⟩ := sysA_ok h1 d hd
    have hlen : (0 :: wiL l c i b).length = l.length + 1 := by rw [List.length_cons, g1]
    refine ⟨⟨a0, by rw [hlen]; exact a1⟩, ⟨b0, by rw [hlen]; exact b1⟩, ?_⟩
    rw [hx _ (by omega), hx _ (by omega)]
    have := hp d hd
    simp only at this
    unfold wiX
    omega
theorem wiL_at {l : List En} {c : Cf} (h0 : ofE l c = 0) {i : Nat} (hi : i < l.length) {b : Bool} (hE : wiE l c i b = 0) :
    (l.getD i en0).c - (wiL l c i b).getD i 0 = bif b then ((ofA l c).getD i iv0).hi else ((ofA l c).getD i iv0).lo := by
  obtain ⟨h1, h2, _, _⟩ := of_sys h0
  obtain ⟨g1, g2⟩ := wiL_get h0 hi hE
  obtain ⟨e1, e2⟩ := ofA_get h0 hi
  have hr := wi_rg l hi b
  have h159 := (sys_zero h1).2.1
  have hI := wiE_is h0 hi b
  have hn : mg (fw (l.length + 1) (sysA l c)) (wiA i b).toNat (wiB i b).toNat ≠ NN := fun e => by rw [if_pos e, hE] at hI; cases hI
  have hd := tgX_diff ⟨by omega, by omega⟩ (sysA_ok h1) h2 (show (wiA i b).toNat < l.length + 1 by omega) (show (wiB i b).toNat < l.length + 1 by omega) hn
  rw [g2 i hi]
  unfold wiX
  cases b
  · simp only [wiA, wiB, cond_false, Int.toNat_zero, show ((i : Int) + 1).toNat = i + 1 by omega] at hd hn ⊢
    rw [e1, if_neg hn]; omega
  · simp only [wiA, wiB, cond_true, Int.toNat_zero, show ((i : Int) + 1).toNat = i + 1 by omega] at hd hn ⊢
    rw [e2, if_neg hn]; omega
/-- A bound that is not there is stated by the greatest number, and only such. -/
theorem wi_none {l : List En} {c : Cf} (h0 : ofE l c = 0) {i : Nat} (hi : i < l.length) (b : Bool) :
    ((bif b then ((ofA l c).getD i iv0).hi else ((ofA l c).getD i iv0).lo) = (bif b then 8000000000000000000 else -8000000000000000000) ∧ wiE l c i b = 11) ∨
    ((bif b then ((ofA l c).getD i iv0).hi else ((ofA l c).getD i iv0).lo) ≠ (bif b then 8000000000000000000 else -8000000000000000000) ∧ wiE l c i b = 0) := by
  obtain ⟨h1, h2, ⟨y, hs⟩, _⟩ := of_sys h0
  obtain ⟨e1, e2⟩ := ofA_get h0 hi
  have hI := wiE_is h0 hi b
  have h159 := (sys_zero h1).2.1
  obtain ⟨_, _, _, g1, g2⟩ := lchk_rg (sys_zero h1).1 hi
  cases b
  · simp only [wiA, wiB, cond_false, Int.toNat_zero, show ((i : Int) + 1).toNat = i + 1 by omega] at hI ⊢
    rw [e1, hI]
    split
    · exact .inl ⟨rfl, rfl⟩
    · rename_i hn
      have := fw_rng hs (show 0 < l.length + 1 by omega) (show i + 1 < l.length + 1 by omega) hn
      exact .inr ⟨by omega, rfl⟩
  · simp only [wiA, wiB, cond_true, Int.toNat_zero, show ((i : Int) + 1).toNat = i + 1 by omega] at hI ⊢
    rw [e2, hI]
    split
    · exact .inl ⟨rfl, rfl⟩
    · rename_i hn
      have := fw_rng hs (show i + 1 < l.length + 1 by omega) (show 0 < l.length + 1 by omega) hn
      exact .inr ⟨by omega, rfl⟩
end Go.Vx.L53

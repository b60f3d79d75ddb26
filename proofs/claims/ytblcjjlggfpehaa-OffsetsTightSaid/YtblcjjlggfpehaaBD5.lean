/- Lemmas of a small executor for the model, and contracts of functions, used for the law that this claim proves. No condition. -/
import Derived.Test.YtblcjjlggfpehaaBD4
set_option linter.unusedSimpArgs false
set_option linter.unusedVariables false
set_option maxRecDepth 100000
namespace Go.Vx.L53
open Go Go.Proofs
theorem mem_mts {l : List En} {q : List Int} {k : Nat} : k ∈ mts l q ↔ k < l.length ∧ isS (l.getD k en0) q := by
  refine ⟨mts_lt l q k, ?_⟩
  induction l using snoc_ind with
  | h0 => rintro ⟨h, _⟩; simp at h
  | h l e ih =>
    rintro ⟨h1, h2⟩
    rw [List.length_append, List.length_singleton] at h1
    rw [mts_snoc]
    by_cases hk : k = l.length
    · subst hk
      rw [List.getD_eq_getElem?_getD, List.getElem?_append_right (Nat.le_refl _), Nat.sub_self] at h2
      have h2 : isS e q := h2
      rw [if_pos h2]; simp
    · have hkl : k < l.length := by omega
      have := ih ⟨hkl, by rw [List.getD_eq_getElem?_getD, List.getElem?_append_left hkl, ← List.getD_eq_getElem?_getD] at h2; exact h2⟩
      split
      · simp [this]
      · exact this
theorem mem_pairsT {l : List En} {p : PrI} : ∀ {x : Nat}, p ∈ pairsT l x ↔ ∃ i, i < x ∧ (l.getD i en0).k = 2 ∧ ∃ k ∈ mts l (askQ (l.getD i en0)), p = ⟨(k : Nat), (i : Nat)⟩
  | 0 => by simp [pairsT]
  | x + 1 => by
    unfold pairsT
    rw [List.mem_append, mem_pairsT]
    have hS : p ∈ prS l x ↔ (l.getD x en0).k = 2 ∧ ∃ k ∈ mts l (askQ (l.getD x en0)), p = ⟨(k : Nat), (x : Nat)⟩ := by
      unfold prS prOf
      split
      · rename_i h
        rw [List.mem_map]
        constructor
        · rintro ⟨k, h1, rfl⟩; exact ⟨h, k, h1, rfl⟩
        · rintro ⟨_, k, h1, rfl⟩; exact ⟨k, h1, rfl⟩
      · rename_i h
        constructor
        · intro h2; simp at h2
        · rintro ⟨h2, _⟩; exact absurd h2 h
    rw [hS]
    constructor
    · rintro (⟨i, h1, h2⟩ | h)
      · exact ⟨i, by omega, h2⟩
      · exact ⟨x, by omega, h⟩
    · rintro ⟨i, h1, h2⟩
      by_cases e : i = x
      · subst e; exact .inr h2
      · exact .inl ⟨i, by omega, h2⟩
theorem take_get {α : Type} (l : List α) (d : α) {m i : Nat} (h : i < m) : (l.take m).getD i d = l.getD i d := by
  rw [List.getD_eq_getElem?_getD, List.getD_eq_getElem?_getD, List.getElem?_take_of_lt h]
theorem firstE_of : ∀ {l : List En}, (∀ e ∈ l, oneE e = 0) → firstE l = 0
  | [], _ => rfl
  | e :: r, h => by
    unfold firstE
    rw [if_pos (h e (by simp))]
    exact firstE_of fun x hx => h x (by simp [hx])
theorem ordL_app : ∀ (r s pre : List En), ordL pre (r ++ s) = 0 → ordL pre r = 0
  | [], _, _, _ => rfl
  | e :: r, s, pre, h => by
    rw [List.cons_append] at h
    unfold ordL at h ⊢
    split
    · rename_i h1; rw [if_pos h1] at h; cases h
    · rename_i h1
      rw [if_neg h1] at h
      split
      · rename_i h2; rw [if_pos h2] at h; cases h
      · rename_i h2; rw [if_neg h2] at h; exact ordL_app r s _ h
theorem lchk_take {l : List En} (h : lchk l = 0) (m : Nat) : lchk (l.take m) = 0 := by
  obtain ⟨h1, h2, h3⟩ := lchk_zero h
  unfold lchk
  rw [if_neg (by rw [List.length_take]; omega), if_pos (firstE_of fun e he => firstE_all h2 e (List.mem_of_mem_take he))]
  exact ordL_app (l.take m) (l.drop m) [] (by rw [List.take_append_drop]; exact h3)
theorem prev_take (l : List En) {m i : Nat} (h : i < m) : prevI (l.take m) i = prevI l i := by
  unfold prevI
  rw [take_get l en0 h, List.take_take, Nat.min_eq_left (by omega)]
theorem prev_lt {l : List En} {i k : Nat} (h : prevI l i = some k) : k < i := by
  have := (lastI_lt h).1
  rw [List.length_take] at this
  omega
theorem span_take (l : List En) {m i k : Nat} (h : i < m) (hk : k < m) : spanF (l.take m) k i = spanF l k i := by
  unfold spanF
  rw [take_get l en0 h, take_get l en0 hk]
theorem bad_take (l : List En) (c : Cf) {m i : Nat} (h : i < m) : badI (l.take m) c i ↔ badI l c i := by
  unfold badI
  rw [prev_take l h, take_get l en0 h]
  cases hp : prevI l i with
  | none => exact Iff.rfl
  | some k =>
    have hk := prev_lt hp
    simp only
    rw [span_take l h (by omega)]
theorem sysE_of {l : List En} {c : Cf} (h1 : lchk l = 0) (h2 : l.length ≤ 159) (h3 : confE c = 0) (h4 : ∀ i, i < l.length → ¬ badI l c i) : sysE l c = 0 := by
  rw [sysE_zero h1 (by omega) h3, if_neg]
  rintro ⟨i, hi, hb⟩
  exact h4 i hi hb
theorem sys_take {l : List En} {c : Cf} (h : sysE l c = 0) (m : Nat) (hm : m ≤ l.length) : sysE (l.take m) c = 0 ∧ dom (sysA (l.take m) c) (sysA l c) := by
  obtain ⟨h1, h2, h3, h4⟩ := sys_zero h
  have hlen : (l.take m).length = m := by rw [List.length_take]; omega
  have hE : sysE (l.take m) c = 0 := sysE_of (lchk_take h1 m) (by omega) h3 fun i hi hb => h4 i (by omega) ((bad_take l c (by omega)).1 hb)
  refine ⟨hE, fun d hd => ⟨d, ?_, rfl, rfl, Int.le_refl _⟩⟩
  unfold sysA at hd ⊢
  rw [if_pos hE] at hd
  rw [if_pos h]
  unfold sysC at hd ⊢
  simp only [List.mem_append, mem_catN, hlen] at hd ⊢
  rcases hd with (⟨i, hi, hd⟩ | ⟨i, hi, hd⟩) | ⟨i, hi, hd⟩
  · refine .inl (.inl ⟨i, by omega, ?_⟩)
    unfold refI at hd ⊢
    rw [take_get l en0 hi] at hd
    exact hd
  · refine .inl (.inr ?_)
    have hp := getD_mem (pairsL (l.take m)) i pr0 hi
    have hp2 : (pairsL (l.take m)).getD i pr0 ∈ pairsL l := by
      unfold pairsL at hp ⊢
      rw [mem_pairsT] at hp ⊢
      obtain ⟨j, h5, h6, k, h7, h8⟩ := hp
      rw [hlen] at h5
      rw [take_get l en0 h5] at h6 h7
      rw [mem_mts, hlen] at h7
      refine ⟨j, by omega, h6, k, ?_, h8⟩
      rw [mem_mts]
      refine ⟨by omega, ?_⟩
      rw [take_get l en0 h7.1] at h7
      exact h7.2
    obtain ⟨z, hz, hz2⟩ := mem_get (d := pr0) hp2
    refine ⟨z, hz, ?_⟩
    unfold prvI at hd ⊢
    rw [hz2]; exact hd
  · refine .inr ⟨i, by omega, ?_⟩
    unfold stpI at hd ⊢
    rw [prev_take l hi, take_get l en0 hi] at hd
    cases hp : prevI l i with
    | none => rw [hp] at hd; exact hd
    | some k =>
      have hk := prev_lt hp
      rw [hp] at hd
      simp only at hd ⊢
      rw [span_take l hi (by omega)] at hd
      exact hd
/-! Smaller bounds. -/
def mxI (a b : Int) : Int := if b > a then b else a
theorem mxI_is (a b : Int) : (b > a ∧ mxI a b = b) ∨ (b ≤ a ∧ mxI a b = a) := by unfold mxI; split <;> omega
def confD (c : Cf) (s : Int) : Cf := ⟨c.ref, mxI 0 (c.err - s), c.tol.map fun t => mxI 0 (t - s), c.mn, mxI c.mn (c.mx - s)⟩
theorem confE_of {c : Cf} (h : ((0 ≤ c.ref ∧ c.ref < 24) ∧ (0 ≤ c.err ∧ c.err ≤ 1125899906842624)) ∧ c.tol.length ≤ 24 ∧ tolOK c.tol ∧ ((0 ≤ c.mn ∧ c.mn ≤ 1125899906842624) ∧ (0 ≤ c.mx ∧ c.mx ≤ 1125899906842624)) ∧ c.mn ≤ c.mx) : confE c = 0 := by
  obtain ⟨h1, h2, h3, h4, h5⟩ := h
  unfold confE
  rw [if_neg (not_not_intro h1), if_neg (by omega), if_neg (not_not_intro h3), if_neg (not_not_intro h4), if_neg (by omega)]
theorem conf_less {c : Cf} (h : confE c = 0) {s : Int} (hs : 0 ≤ s) : confE (confD c s) = 0 := by
  obtain ⟨⟨r1, r2⟩, r3, r4, ⟨r5, r6⟩, r7⟩ := conf_rg h
  have e1 := mxI_is 0 (c.err - s)
  have e2 := mxI_is c.mn (c.mx - s)
  refine confE_of ⟨⟨r1, by simp only [confD]; omega⟩, by simp only [confD, List.length_map]; exact r3, fun t ht => ?_, ⟨r5, by simp only [confD]; omega⟩, by simp only [confD]; omega⟩
  simp only [confD, List.mem_map] at ht
  obtain ⟨u, hu, rfl⟩ := ht
  have := r4 u hu
  have e3 := mxI_is 0 (u - s)
  omega
theorem tol_less {c : Cf} (h : confE c = 0) {s : Int} (hs : 0 ≤ s) (n : Int) (hn : 0 ≤ n) : 0 ≤ tolF (confD c s) n ∧ tolF (confD c s) n ≤ tolF c n := by
  have hr := tolF_rg h n hn
  unfold tolF at *
  simp only [confD, List.length_map]
  split
  · rename_i h1
    rw [if_pos h1] at hr
    have : (List.map (fun t => mxI 0 (t - s)) c.tol).getD n.toNat 0 = mxI 0 (c.tol.getD n.toNat 0 - s) := by
      rw [List.getD_eq_getElem?_getD, List.getD_eq_getElem?_getD, List.getElem?_map, List.getElem?_eq_getElem (by omega)]; rfl
    rw [this]
    have e := mxI_is 0 (c.tol.getD n.toNat 0 - s)
    omega
  · omega
theorem hi_mono {raw t1 t2 : Int} (h : elOK raw t2) (h1 : 0 ≤ t1) (h2 : t1 ≤ t2) : elHi raw t1 ≤ elHi raw t2 := by
  obtain ⟨⟨a0, a1⟩, b0, b1⟩ := h
  unfold elHi cdiv
  have e := Int.mul_ediv_add_emod ((raw + 1) * 1000000000 + (1000000000 - t2) - 1) (1000000000 - t2)
  have e2 := Int.emod_lt_of_pos ((raw + 1) * 1000000000 + (1000000000 - t2) - 1) (show 0 < 1000000000 - t2 by omega)
  have k0 : 0 ≤ ((raw + 1) * 1000000000 + (1000000000 - t2) - 1) / (1000000000 - t2) := Int.ediv_nonneg (by omega) (by omega)
  generalize ((raw + 1) * 1000000000 + (1000000000 - t2) - 1) / (1000000000 - t2) = q at *
  generalize ((raw + 1) * 1000000000 + (1000000000 - t2) - 1) % (1000000000 - t2) = r at *
  have u1 : (1000000000 - t2) * q ≤ (1000000000 - t1) * q := Int.mul_le_mul_of_nonneg_right (by omega) k0
  have : ((raw + 1) * 1000000000 + (1000000000 - t1) - 1) / (1000000000 - t1) < q + 1 := by
    refine Int.ediv_lt_of_lt_mul (by omega) ?_
    have : (q + 1) * (1000000000 - t1) = (1000000000 - t1) * q + (1000000000 - t1) := by rw [Int.add_mul, Int.one_mul, Int.mul_comm]
    rw [this]
    generalize (1000000000 - t1) * q = X at *
    generalize (1000000000 - t2) * q = Y at *
    omega
  omega
theorem lo_mono {raw t1 t2 : Int} (h : elOK raw t2) (h1 : 0 ≤ t1) (h2 : t1 ≤ t2) : elLo raw t2 ≤ elLo raw t1 := by
  obtain ⟨⟨a0, a1⟩, b0, b1⟩ := h
  unfold elLo
  split
  · exact Int.le_refl _
  · have e := Int.mul_ediv_add_emod ((raw - 1) * 1000000000) (1000000000 + t2)
    have e1 := Int.emod_nonneg ((raw - 1) * 1000000000) (show 1000000000 + t2 ≠ 0 by omega)
    have k0 : 0 ≤ (raw - 1) * 1000000000 / (1000000000 + t2) := Int.ediv_nonneg (by omega) (by omega)
    generalize (raw - 1) * 1000000000 / (1000000000 + t2) = q at *
    generalize (raw - 1) * 1000000000 % (1000000000 + t2) = r at *
    have u1 : (1000000000 + t1) * q ≤ (1000000000 + t2) * q := Int.mul_le_mul_of_nonneg_right (by omega) k0
    have : q ≤ (raw - 1) * 1000000000 / (1000000000 + t1) := by
      refine Int.le_ediv_of_mul_le (by omega) ?_
      rw [Int.mul_comm]
      omega
    omega
theorem sys_less {l : List En} {c : Cf} (h : sysE l c = 0) {s : Int} (hs : 0 ≤ s) : sysE l (confD c s) = 0 ∧ dom (sysA l c) (sysA l (confD c s)) := by
  obtain ⟨h1, h2, h3, h4⟩ := sys_zero h
  obtain ⟨⟨r1, r2⟩, r3, r4, ⟨r5, r6⟩, r7⟩ := conf_rg h3
  have e1 := mxI_is 0 (c.err - s)
  have e2 := mxI_is c.mn (c.mx - s)
  have hel : ∀ i, i < l.length → ∀ k, prevI l i = some k → elOK (spanF l k i) (tolF c (l.getD i en0).nd) ∧ elOK (spanF l k i) (tolF (confD c s) (l.getD i en0).nd) := fun i hi k hk => by
    have hb := h4 i hi
    unfold badI at hb
    rw [hk] at hb
    have hb := Decidable.not_not.1 hb
    have ht := tol_less h3 hs (l.getD i en0).nd (lchk_rg h1 hi).1.1
    refine ⟨hb, hb.1, ?_⟩
    have := hb.2
    omega
  have hE : sysE l (confD c s) = 0 := sysE_of h1 h2 (conf_less h3 hs) fun i hi hb => by
    unfold badI at hb
    split at hb
    · rename_i k hk; exact hb (hel i hi k hk).2
    · exact hb
  refine ⟨hE, fun d hd => ?_⟩
  unfold sysA at hd ⊢
  rw [if_pos h] at hd
  rw [if_pos hE]
  unfold sysC at hd ⊢
  simp only [List.mem_append, mem_catN] at hd ⊢
  rcases hd with (⟨i, hi, hd⟩ | ⟨i, hi, hd⟩) | ⟨i, hi, hd⟩
  · unfold refI at hd
    split at hd
    · rename_i hnd
      simp only [List.mem_cons, List.not_mem_nil, or_false] at hd
      rcases hd with rfl | rfl
      · refine ⟨⟨0, (i : Int) + 1, (l.getD i en0).c + (confD c s).err⟩, .inl (.inl ⟨i, hi, ?_⟩), rfl, rfl, by simp only [confD]; omega⟩
        unfold refI; rw [if_pos (by exact hnd)]; simp
      · refine ⟨⟨(i : Int) + 1, 0, (confD c s).err - (l.getD i en0).c⟩, .inl (.inl ⟨i, hi, ?_⟩), rfl, rfl, by simp only [confD]; omega⟩
        unfold refI; rw [if_pos (by exact hnd)]; simp
    · cases hd
  · unfold prvI at hd
    simp only [List.mem_cons, List.not_mem_nil, or_false] at hd
    rcases hd with rfl | rfl
    · refine ⟨⟨((pairsL l).getD i pr0).a + 1, ((pairsL l).getD i pr0).b + 1, (confD c s).mx⟩, .inl (.inr ⟨i, hi, ?_⟩), rfl, rfl, by simp only [confD]; omega⟩
      unfold prvI; simp
    · refine ⟨⟨((pairsL l).getD i pr0).b + 1, ((pairsL l).getD i pr0).a + 1, -(confD c s).mn⟩, .inl (.inr ⟨i, hi, ?_⟩), rfl, rfl, by simp only [confD]; omega⟩
      unfold prvI; simp
  · unfold stpI at hd
    split at hd
    · rename_i k hk
      obtain ⟨q1, q2⟩ := hel i hi k hk
      have ht := tol_less h3 hs (l.getD i en0).nd (lchk_rg h1 hi).1.1
      have m1 := hi_mono q1 ht.1 ht.2
      have m2 := lo_mono q1 ht.1 ht.2
      unfold btw at hd
      simp only [List.mem_cons, List.not_mem_nil, or_false] at hd
      rcases hd with rfl | rfl
      · refine ⟨⟨(k : Int) + 1, (i : Int) + 1, elHi (spanF l k i) (tolF (confD c s) (l.getD i en0).nd)⟩, .inr ⟨i, hi, ?_⟩, rfl, rfl, m1⟩
        unfold stpI; rw [hk]; simp [btw]
      · refine ⟨⟨(i : Int) + 1, (k : Int) + 1, -elLo (spanF l k i) (tolF (confD c s) (l.getD i en0).nd)⟩, .inr ⟨i, hi, ?_⟩, rfl, rfl, by simp only; omega⟩
        unfold stpI; rw [hk]; simp [btw]
    · cases hd
/-- One entry less: a solution stays one, and intervals become no narrower. -/
theorem more_take {l : List En} {c : Cf} (h : ofE l c = 0) (m : Nat) (hm : m ≤ l.length) : ofE (l.take m) c = 0 ∧ ∀ i, i < m → ((ofA (l.take m) c).getD i iv0).lo ≤ ((ofA l c).getD i iv0).lo ∧ ((ofA l c).getD i iv0).hi ≤ ((ofA (l.take m) c).getD i iv0).hi := by
  obtain ⟨h1, h2, ⟨y, hy⟩, h3⟩ := of_sys h
  obtain ⟨g1, g2⟩ := sys_take h1 m hm
  have hlen : (l.take m).length = m := by rw [List.length_take]; omega
  have hcy : cyc (sysA (l.take m) c) ((l.take m).length + 1) = false := (cyc_iff (by omega) (sysA_ok g1)).2 ⟨y, pot_dom g2 hy.pot⟩
  have hE := of_of g1 hcy
  obtain ⟨_, _, ⟨y', hy'⟩, h3'⟩ := of_sys hE
  refine ⟨hE, fun i hi => ?_⟩
  rw [h3, h3', iv_get _ _ (by omega), iv_get _ _ (by omega)]
  exact iv_dom g1 h1 hy' hy (by omega) (fun i hi => (take_get l en0 (by omega)).symm) g2 (by omega)
/-- Smaller bounds: intervals become no wider. -/
theorem more_less {l : List En} {c : Cf} (h : ofE l c = 0) {s : Int} (hs : 0 ≤ s) : ofE l (confD c s) = 20 ∨ (ofE l (confD c s) = 0 ∧ ∀ i, i < l.length → ((ofA l c).getD i iv0).lo ≤ ((ofA l (confD c s)).getD i iv0).lo ∧ ((ofA l (confD c s)).getD i iv0).hi ≤ ((ofA l c).getD i iv0).hi) := by
  obtain ⟨h1, h2, ⟨y, hy⟩, h3⟩ := of_sys h
  obtain ⟨g1, g2⟩ := sys_less h1 hs
  rcases of_cases g1 with hE | hE
  · obtain ⟨_, _, ⟨y', hy'⟩, h3'⟩ := of_sys hE
    refine .inr ⟨hE, fun i hi => ?_⟩
    rw [h3, h3', iv_get _ _ hi, iv_get _ _ hi]
    exact iv_dom h1 g1 hy hy' (Nat.le_refl _) (fun i hi => rfl) g2 hi
  · exact .inl hE
theorem ofA_length {l : List En} {c : Cf} (h : ofE l c = 0) : (ofA l c).length = l.length := by
  rw [(of_sys h).2.2.2]; simp [ivL]
end Go.Vx.L53

/- Lemmas of a small executor for the model, and contracts of functions, used for the law that this claim proves. No condition. -/
import Derived.Test.YtafojofaegmbnaaCF28
set_option linter.unusedSimpArgs false
set_option linter.unusedVariables false
set_option maxRecDepth 100000
namespace Go.Vx.L55
open Go Go.Proofs
/-- Is a set closed? -/
def clF (n : Nat) (rs : List (List Int)) (ns : List Int) (W : List Bool) : Bool :=
  (ns.all fun x => !(decide (x < 0) || (decide (x < n) && !W.getD x.toNat false))) && (List.range (min rs.length n)).all fun i => !(dbt (rs.getD i []) W n && !W.getD i false)
theorem dbt_mono {l : List Int} {W W' : List Bool} {n : Nat} (h : ∀ x, x < n → W.getD x false = true → W'.getD x false = true) (hd : dbt l W n = true) : dbt l W' n = true := by
  have hc : cntB W n l ≤ cntB W' n l := List.countP_mono_left fun s _ hs => by
    unfold badB at *
    simp only [Bool.or_eq_true, decide_eq_true_eq] at *
    rcases hs with hs | hs | hs
    · exact .inl hs
    · exact .inr (.inl hs)
    · by_cases h1 : s < 0
      · exact .inl h1
      · by_cases h2 : (n : Int) ≤ s
        · exact .inr (.inl h2)
        · exact .inr (.inr (h s.toNat (by omega) hs))
  unfold dbt at *
  simp only [decide_eq_true_eq] at *
  omega
theorem fwU_get (ns : List Int) (hns : ∀ x ∈ ns, 0 ≤ x ∧ x < 24) (x : Nat) (hx : (fwU ns).getD x false = true) : (x : Int) ∈ ns := by
  have gen : ∀ (ns : List Int) (ws : List Bool), (∀ x ∈ ns, 0 ≤ x ∧ x < 24) → (ns.foldl (fun ws i => ws.set i.toNat true) ws).getD x false = true → ws.getD x false = true ∨ (x : Int) ∈ ns := by
    intro ns
    induction ns with
    | nil => intro ws _ h; exact .inl h
    | cons a r ih =>
      intro ws ha h
      rcases ih (ws.set a.toNat true) (fun y hy => ha y (by simp [hy])) h with h | h
      · rw [getD_set] at h
        split at h
        · rename_i hq
          have := ha a (by simp)
          right
          have : (x : Int) = a := by omega
          rw [this]; simp
        · exact .inl h
      · exact .inr (by simp [h])
  rcases gen ns (List.replicate 24 false) hns hx with h | h
  · rw [List.getD_eq_getElem?_getD, List.getElem?_replicate] at h
    split at h <;> cases h
  · exact h
theorem fwU_has (ns : List Int) (x : Int) (hx : x ∈ ns) (h0 : 0 ≤ x ∧ x < 24) : (fwU ns).getD x.toNat false = true := by
  have keep : ∀ (ns : List Int) (ws : List Bool) (k : Nat), ws.getD k false = true → (ns.foldl (fun ws i => ws.set i.toNat true) ws).getD k false = true := by
    intro ns
    induction ns with
    | nil => intro ws k h; exact h
    | cons a r ih =>
      intro ws k h
      refine ih _ k ?_
      rw [getD_set]
      split
      · rfl
      · exact h
  have gen : ∀ (ns : List Int) (ws : List Bool), ws.length = 24 → x ∈ ns → (ns.foldl (fun ws i => ws.set i.toNat true) ws).getD x.toNat false = true := by
    intro ns
    induction ns with
    | nil => intro ws _ h; cases h
    | cons a r ih =>
      intro ws hw h
      rcases List.mem_cons.1 h with rfl | h
      · refine keep r _ _ ?_
        rw [getD_set, if_pos ⟨rfl, by omega⟩]
      · exact ih _ (by simp [hw]) h
  exact gen ns _ (by simp) hx
/-- What holds before and behind a node of a pass. -/
theorem stU_P {rw : Nat → List Int} {m : Nat} {P : List Bool → Prop} {p : List Bool × Bool} {i : Nat} (h : P p.1) (hs : p.1.getD i false = false → dbt (rw i) p.1 m = true → P (p.1.set i true)) : P (stU rw m p i).1 := by
  unfold stU
  split
  · rename_i hc; exact hs hc.1 hc.2
  · exact h
theorem pU_P {rw : Nat → List Int} {m K : Nat} {P : List Bool → Prop} {ws : List Bool} (h : P ws) (hs : ∀ ws i, i < K → P ws → ws.getD i false = false → dbt (rw i) ws m = true → P (ws.set i true)) : ∀ k, k ≤ K → P (pU rw m ws k).1
  | 0, _ => h
  | k + 1, hk => stU_P (pU_P h hs k (by omega)) fun h1 h2 => hs _ k (by omega) (pU_P h hs k (by omega)) h1 h2
theorem itU_P {rw : Nat → List Int} {m K : Nat} {P : List Bool → Prop} {ws : List Bool} (h : P ws) (hs : ∀ ws i, i < K → P ws → ws.getD i false = false → dbt (rw i) ws m = true → P (ws.set i true)) : ∀ j, P (itU rw m K ws j)
  | 0 => h
  | j + 1 => pU_P (itU_P h hs j) hs K (Nat.le_refl _)
/-- The unsound nodes are in each closed set. -/
theorem least (n : Nat) (hn : n ≤ 24) (rs : List (List Int)) (ns : List Int) (hns : ∀ x ∈ ns, 0 ≤ x ∧ x < 24) (W : List Bool) (hW : clF n rs ns W = true) (x : Nat) (hx : x < n) (h : (wsU (rwL rs) n (min n rs.length) (fwU ns)).getD x false = true) : W.getD x false = true := by
  simp only [clF, Bool.and_eq_true, List.all_eq_true, Bool.not_eq_true', Bool.or_eq_false_iff, Bool.and_eq_false_iff, decide_eq_false_iff_not, Bool.not_eq_false', List.mem_range] at hW
  obtain ⟨h1, h2⟩ := hW
  have := itU_P (rw := rwL rs) (m := n) (K := min n rs.length) (P := fun w => ∀ x, x < n → w.getD x false = true → W.getD x false = true) (ws := fwU ns) (fun x hx h => by
      have hm := fwU_get ns hns x h
      rcases (h1 _ hm).2 with q | q
      · exact absurd (by omega) q
      · rwa [Int.toNat_natCast] at q) (fun ws i hi hP _ hd y hy h => by
      rw [getD_set] at h
      split at h
      · rename_i hq
        obtain ⟨rfl, _⟩ := hq
        rcases h2 y (by omega) with q | q
        · rw [dbt_mono hP hd] at q; cases q
        · exact q
      · exact hP y hy h) 24
  exact this x hx h
/-- And they are closed themselves. -/
theorem closed_self (n : Nat) (hn : n ≤ 24) (rs : List (List Int)) (ns : List Int) (hns : ∀ x ∈ ns, 0 ≤ x ∧ x < 24) : clF n rs ns (wsU (rwL rs) n (min n rs.length) (fwU ns)) = true := by
  generalize hK : min n rs.length = K
  have hKn : K ≤ 24 := by omega
  have hlen : ∀ j, (itU (rwL rs) n K (fwU ns) j).length = 24 := fun j => by rw [itU_len, fwU_len]
  -- a pass that changes nothing
  have fix : itU (rwL rs) n K (fwU ns) 25 = itU (rwL rs) n K (fwU ns) 24 := by
    have key : ∀ j, (∃ i, i < j ∧ itU (rwL rs) n K (fwU ns) (i + 1) = itU (rwL rs) n K (fwU ns) i) ∨ j ≤ cT (itU (rwL rs) n K (fwU ns) j) := by
      intro j
      induction j with
      | zero => exact .inr (Nat.zero_le _)
      | succ j ih =>
        rcases ih with ⟨i, h1, h2⟩ | h
        · exact .inl ⟨i, by omega, h2⟩
        · obtain ⟨q1, q2, q3⟩ := pU_ch (rwL rs) n (itU (rwL rs) n K (fwU ns) j) K (by rw [hlen]; omega)
          cases hc : (pU (rwL rs) n (itU (rwL rs) n K (fwU ns) j) K).2 with
          | false => exact .inl ⟨j, by omega, q1 hc⟩
          | true => have := q3 hc; exact .inr (by unfold itU; omega)
    rcases key 25 with ⟨i, h1, h2⟩ | h
    · have h3 := itU_stop (rwL rs) n K (fwU ns) i h2 (24 - i)
      have h4 := itU_stop (rwL rs) n K (fwU ns) i h2 (25 - i)
      rw [show i + (24 - i) = 24 from by omega] at h3
      rw [show i + (25 - i) = 25 from by omega] at h4
      rw [h3, h4]
    · have := cT_le (itU (rwL rs) n K (fwU ns) 25)
      rw [hlen] at this
      omega
  show clF n rs ns (itU (rwL rs) n K (fwU ns) 24) = true
  have hU : (pU (rwL rs) n (itU (rwL rs) n K (fwU ns) 24) K).1 = itU (rwL rs) n K (fwU ns) 24 := fix
  have hsub := itU_P (rw := rwL rs) (m := n) (K := K) (P := fun w => ∀ x : Nat, (fwU ns).getD x false = true → w.getD x false = true) (ws := fwU ns) (fun _ h => h) (fun ws i _ hP _ _ y h => by
    rw [getD_set]
    split
    · rfl
    · exact hP y h) 24
  have hl := hlen 24
  generalize itU (rwL rs) n K (fwU ns) 24 = U at *
  have nochg : ∀ k, k ≤ K → (pU (rwL rs) n U k).2 = false ∧ (pU (rwL rs) n U k).1 = U := by
    have hfin : (pU (rwL rs) n U K).2 = false := by
      cases hc : (pU (rwL rs) n U K).2 with
      | false => rfl
      | true =>
        have := (pU_ch (rwL rs) n U K (by omega)).2.2 hc
        rw [hU] at this; omega
    have down : ∀ d k, k + d = K → (pU (rwL rs) n U k).2 = false := by
      intro d
      induction d with
      | zero => intro k hk; rw [show k = K by omega]; exact hfin
      | succ d ih =>
        intro k hk
        have h1 := ih (k + 1) (by omega)
        unfold pU stU at h1
        split at h1
        · cases h1
        · exact h1
    intro k hk
    have h1 := down (K - k) k (by omega)
    exact ⟨h1, (pU_ch (rwL rs) n U k (by omega)).1 h1⟩
  simp only [clF, Bool.and_eq_true, List.all_eq_true, Bool.not_eq_true', Bool.or_eq_false_iff, Bool.and_eq_false_iff, decide_eq_false_iff_not, Bool.not_eq_false', List.mem_range]
  refine ⟨fun x hx => ⟨by have := hns x hx; omega, .inr (hsub _ (fwU_has ns x hx (hns x hx)))⟩, fun i hi => ?_⟩
  have hiK : i < K := by omega
  obtain ⟨h1, h2⟩ := nochg i (by omega)
  obtain ⟨h3, h4⟩ := nochg (i + 1) (by omega)
  unfold pU stU at h3
  rw [h2] at h3
  split at h3
  · cases h3
  · rename_i hc
    by_cases hg : U.getD i false = true
    · exact .inr hg
    · left
      cases hd : dbt (rs.getD i []) U n with
      | false => rfl
      | true => exact absurd ⟨by simpa using hg, hd⟩ hc
theorem clF_congr {n : Nat} {rs : List (List Int)} {ns : List Int} {W W' : List Bool} (h : ∀ x, x < n → W.getD x false = W'.getD x false) : clF n rs ns W = clF n rs ns W' := by
  have hd : ∀ l, dbt l W n = dbt l W' n := fun l => by
    rw [Bool.eq_iff_iff]
    exact ⟨dbt_mono fun x hx hh => by rw [← h x hx]; exact hh, dbt_mono fun x hx hh => by rw [h x hx]; exact hh⟩
  unfold clF
  congr 1
  · refine List.all_congr rfl fun x => ?_
    by_cases h0 : x < 0
    · simp [h0]
    · by_cases h1 : x < (n : Int)
      · rw [h x.toNat (by omega)]
      · simp [h1]
  · rw [Bool.eq_iff_iff, List.all_eq_true, List.all_eq_true]
    refine forall_congr' fun i => imp_congr_right fun hi => ?_
    simp only [List.mem_range] at hi
    rw [hd, h i (by omega)]
/-- The bits of nodes. -/
def bT (u : List Int) : Nat := u.foldl (fun b x => b ||| 2 ^ x.toNat) 0
theorem bT_bit (u : List Int) (k : Nat) : (bT u).testBit k = true ↔ ∃ x ∈ u, x.toNat = k := by
  have gen : ∀ (u : List Int) (b : Nat), (u.foldl (fun b x => b ||| 2 ^ x.toNat) b).testBit k = true ↔ b.testBit k = true ∨ ∃ x ∈ u, x.toNat = k := by
    intro u
    induction u with
    | nil => intro b; simp
    | cons a r ih =>
      intro b
      rw [List.foldl_cons, ih, Nat.testBit_or, Bool.or_eq_true, Nat.testBit_two_pow, decide_eq_true_eq]
      constructor
      · rintro ((h | h) | ⟨x, hx, h⟩)
        · exact .inl h
        · exact .inr ⟨a, by simp, h⟩
        · exact .inr ⟨x, by simp [hx], h⟩
      · rintro (h | ⟨x, hx, h⟩)
        · exact .inl (.inl h)
        · rcases List.mem_cons.1 hx with rfl | hx
          · exact .inl (.inr h)
          · exact .inr ⟨x, hx, h⟩
  rw [bT, gen]
  simp
def bL (S : Nat) : List Bool := (List.range 24).map fun x => S.testBit x
theorem bL_get (S x : Nat) (hx : x < 24) : (bL S).getD x false = S.testBit x := by simp [bL, List.getD_eq_getElem?_getD, hx]
theorem idxU_mem (ws : List Bool) (n : Nat) (x : Int) : x ∈ idxU ws n ↔ ∃ i : Nat, i < n ∧ ws.getD i false = true ∧ x = i := by
  unfold idxU
  simp only [List.mem_map, List.mem_filter, List.mem_range]
  constructor
  · rintro ⟨i, ⟨h1, h2⟩, rfl⟩; exact ⟨i, h1, h2, rfl⟩
  · rintro ⟨i, h1, h2, rfl⟩; exact ⟨i, ⟨h1, h2⟩, rfl⟩
theorem idxU_inc (ws : List Bool) (n : Nat) : Inc (idxU ws n) := by
  unfold idxU Inc
  rw [List.pairwise_map]
  refine List.Pairwise.filter _ ?_
  exact (List.pairwise_lt_range).imp fun h => by omega
theorem bits_closed (n : Nat) (hn : n ≤ 24) (rs : List (List Int)) (ns : List Int) (hns : ∀ x ∈ ns, 0 ≤ x ∧ x < 24) : clF n rs ns (bL (bT (unF n (rwL rs) rs.length ns))) = true := by
  rw [clF_congr (W' := wsU (rwL rs) n (min n rs.length) (fwU ns)) fun x hx => ?_]
  · exact closed_self n hn rs ns hns
  · rw [bL_get _ _ (by omega), Bool.eq_iff_iff, bT_bit]
    unfold unF
    constructor
    · rintro ⟨y, hy, rfl⟩
      obtain ⟨i, h1, h2, rfl⟩ := (idxU_mem _ _ _).1 hy
      rwa [Int.toNat_natCast]
    · intro h
      exact ⟨x, (idxU_mem _ _ _).2 ⟨x, hx, h, rfl⟩, by simp⟩
theorem bits_least (n : Nat) (hn : n ≤ 24) (rs : List (List Int)) (ns : List Int) (hns : ∀ x ∈ ns, 0 ≤ x ∧ x < 24) (S : Nat) (hS : clF n rs ns (bL S) = true) (k : Nat) (h : (bT (unF n (rwL rs) rs.length ns)).testBit k = true) : S.testBit k = true := by
  obtain ⟨y, hy, rfl⟩ := (bT_bit _ _).1 h
  obtain ⟨i, h1, h2, rfl⟩ := (idxU_mem _ _ _).1 hy
  rw [Int.toNat_natCast, ← bL_get _ _ (by omega)]
  exact least n hn rs ns hns _ hS i h1 h2
end Go.Vx.L55

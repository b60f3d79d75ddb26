/- Lemmas of a small executor for the model, and contracts of functions, used for the law that this claim proves. No condition. -/
import Derived.Test.YtgpgmoodfnamjaaBB19
set_option linter.unusedSimpArgs false
set_option linter.unusedVariables false
set_option maxRecDepth 100000
namespace Go.Vx.L18
open Go Go.Proofs
/-- Two edges share no end. -/
def dj (e f : Ed) : Prop := ¬ (e.a = f.a ∧ e.pa = f.pa) ∧ ¬ (e.a = f.b ∧ e.pa = f.pb) ∧ ¬ (e.b = f.a ∧ e.pb = f.pa) ∧ ¬ (e.b = f.b ∧ e.pb = f.pb)
def goodE (n : Int) (e : Ed) : Prop := (endB n e.a e.pa = true ∧ endB n e.b e.pb = true) ∧ e.a ≠ e.b
theorem ckL_iff (n : Int) : ∀ (l : List Ed) (seen : List (List Int)), ckL n l seen = 0 ↔ (∀ e ∈ l, goodE n e ∧ [e.a, e.pa] ∉ seen ∧ [e.b, e.pb] ∉ seen) ∧ l.Pairwise dj
  | [], seen => by simp [ckL]
  | x :: r, seen => by
    have ih := ckL_iff n r (seen ++ [[x.a, x.pa], [x.b, x.pb]])
    rw [List.pairwise_cons]
    unfold ckL
    constructor
    · intro h
      split at h
      · cases h
      · rename_i h1
        split at h
        · cases h
        · rename_i h2
          split at h
          · cases h
          · rename_i h3
            obtain ⟨p1, p2⟩ := ih.1 h
            simp only [Bool.or_eq_true, List.contains_iff_mem, not_or] at h3
            refine ⟨fun e he => ?_, fun e he => ?_, p2⟩
            · rcases List.mem_cons.1 he with rfl | he
              · exact ⟨⟨by simpa using h1, h2⟩, h3⟩
              · obtain ⟨g1, g2, g3⟩ := p1 e he
                simp only [List.mem_append, not_or] at g2 g3
                exact ⟨g1, g2.1, g3.1⟩
            · obtain ⟨g1, g2, g3⟩ := p1 e he
              simp only [List.mem_append, List.mem_cons, List.not_mem_nil, or_false, not_or, List.cons.injEq, and_true] at g2 g3
              obtain ⟨_, k1, k2⟩ := g2
              obtain ⟨_, k3, k4⟩ := g3
              exact ⟨fun ⟨a, b⟩ => k1 ⟨a.symm, b.symm⟩, fun ⟨a, b⟩ => k3 ⟨a.symm, b.symm⟩, fun ⟨a, b⟩ => k2 ⟨a.symm, b.symm⟩, fun ⟨a, b⟩ => k4 ⟨a.symm, b.symm⟩⟩
    · rintro ⟨h1, h2, h3⟩
      obtain ⟨⟨⟨e1, e2⟩, e3⟩, e4, e5⟩ := h1 x (by simp)
      rw [if_neg (by simp [e1, e2]), if_neg e3, if_neg (by simp only [Bool.or_eq_true, List.contains_iff_mem, not_or]; exact ⟨e4, e5⟩)]
      refine ih.2 ⟨fun e he => ?_, h3⟩
      obtain ⟨g1, g2, g3⟩ := h1 e (by simp [he])
      obtain ⟨k1, k2, k3, k4⟩ := h2 e he
      refine ⟨g1, ?_, ?_⟩
      · simp only [List.mem_append, List.mem_cons, List.not_mem_nil, or_false, not_or, List.cons.injEq, and_true]
        exact ⟨g2, fun ⟨a, b⟩ => k1 ⟨a.symm, b.symm⟩, fun ⟨a, b⟩ => k3 ⟨a.symm, b.symm⟩⟩
      · simp only [List.mem_append, List.mem_cons, List.not_mem_nil, or_false, not_or, List.cons.injEq, and_true]
        exact ⟨g3, fun ⟨a, b⟩ => k2 ⟨a.symm, b.symm⟩, fun ⟨a, b⟩ => k4 ⟨a.symm, b.symm⟩⟩
def oth (m : Nat) (b n : Int) : Int := (n + b) % m
def hE (m : Nat) (b : Int) (e : Ed) : Ed := ⟨oth m b e.b, e.pb, oth m b e.a, e.pa⟩
def hL (m : Nat) (b : Int) (l : List Ed) : List Ed := (l.map (hE m b)).reverse
theorem oth_lt {m : Nat} (hm : 1 ≤ m) (b n : Int) : 0 ≤ oth m b n ∧ oth m b n < m :=
  ⟨Int.emod_nonneg _ (by omega), Int.emod_lt_of_pos _ (by omega)⟩
theorem oth_inj {m : Nat} (hm : 1 ≤ m) {b x y : Int} (hx : 0 ≤ x ∧ x < m) (hy : 0 ≤ y ∧ y < m) (h : oth m b x = oth m b y) : x = y := by
  unfold oth at h
  have h1 : (x + b - (y + b)) % (m : Int) = 0 := by
    rw [Int.sub_emod, h, Int.sub_self, Int.zero_emod]
  have h2 : (m : Int) ∣ x - y := by
    have := Int.dvd_of_emod_eq_zero h1
    rwa [show x + b - (y + b) = x - y by omega] at this
  obtain ⟨q, hq⟩ := h2
  by_cases hq0 : q = 0
  · subst hq0; omega
  · exfalso
    by_cases hp : 0 < q
    · have : (m : Int) * 1 ≤ m * q := Int.mul_le_mul_of_nonneg_left (by omega) (by omega)
      omega
    · have : (m : Int) * q ≤ m * (-1) := Int.mul_le_mul_of_nonneg_left (by omega) (by omega)
      omega
theorem oth_sur {m : Nat} (hm : 1 ≤ m) (b y : Int) (hy : 0 ≤ y ∧ y < m) : ∃ x, (0 ≤ x ∧ x < (m : Int)) ∧ oth m b x = y := by
  refine ⟨(y - b) % m, ⟨Int.emod_nonneg _ (by omega), Int.emod_lt_of_pos _ (by omega)⟩, ?_⟩
  unfold oth
  rw [Int.emod_add_emod, show y - b + b = y by omega]
  exact Int.emod_eq_of_lt hy.1 hy.2
theorem ck_ren {m : Nat} {b : Int} {l : List Ed} (hc : ckC m l = 0) : ckC m (hL m b l) = 0 := by
  obtain ⟨m', hmm, hm, hl64, hed⟩ := ckC_parts hc
  obtain rfl : m = m' := by omega
  have hck : ckL m l [] = 0 := by
    unfold ckC at hc
    rw [if_neg (by omega), if_neg (by omega)] at hc
    exact hc
  obtain ⟨h1, h2⟩ := (ckL_iff m l []).1 hck
  unfold ckC
  rw [if_neg (by omega), if_neg (by unfold hL; simp; omega)]
  refine (ckL_iff m _ []).2 ⟨fun e he => ?_, ?_⟩
  · unfold hL at he
    rw [List.mem_reverse, List.mem_map] at he
    obtain ⟨x, hx, rfl⟩ := he
    obtain ⟨⟨⟨g1, g2⟩, g3⟩, _, _⟩ := h1 x hx
    have p1 := oth_lt hm.1 b x.a
    have p2 := oth_lt hm.1 b x.b
    simp only [endB, decide_eq_true_eq] at g1 g2
    refine ⟨⟨⟨?_, ?_⟩, ?_⟩, by simp, by simp⟩
    · exact decide_eq_true (p := 0 ≤ oth m b x.b ∧ oth m b x.b < m ∧ 1 ≤ x.pb ∧ x.pb ≤ 8) (by omega)
    · exact decide_eq_true (p := 0 ≤ oth m b x.a ∧ oth m b x.a < m ∧ 1 ≤ x.pa ∧ x.pa ≤ 8) (by omega)
    · intro h
      exact g3 (oth_inj hm.1 ⟨by omega, by omega⟩ ⟨by omega, by omega⟩ h.symm)
  · unfold hL
    rw [List.pairwise_reverse, List.pairwise_map]
    refine h2.imp_of_mem fun {x y} hx hy hd => ?_
    obtain ⟨x1, x2, _⟩ := hed x hx
    obtain ⟨y1, y2, _⟩ := hed y hy
    obtain ⟨k1, k2, k3, k4⟩ := hd
    exact ⟨fun ⟨u, v⟩ => k4 ⟨(oth_inj hm.1 y2 x2 u).symm, v.symm⟩, fun ⟨u, v⟩ => k2 ⟨(oth_inj hm.1 y2 x1 u).symm, v.symm⟩, fun ⟨u, v⟩ => k3 ⟨(oth_inj hm.1 y1 x2 u).symm, v.symm⟩, fun ⟨u, v⟩ => k1 ⟨(oth_inj hm.1 y1 x1 u).symm, v.symm⟩⟩
/-- The same on nodes by numbers that are not negative. -/
def othN (m : Nat) (b : Int) (i : Nat) : Nat := (oth m b i).toNat
theorem othN_int {m : Nat} (hm : 1 ≤ m) (b : Int) (i : Nat) : ((othN m b i : Nat) : Int) = oth m b i := by
  have := oth_lt hm b i
  unfold othN; omega
theorem othN_lt {m : Nat} (hm : 1 ≤ m) (b : Int) (i : Nat) : othN m b i < m := by
  have := oth_lt hm b i
  unfold othN; omega
theorem othN_sur {m : Nat} (hm : 1 ≤ m) (b : Int) {j : Nat} (hj : j < m) : ∃ i < m, othN m b i = j := by
  obtain ⟨x, hx, e⟩ := oth_sur hm b j ⟨by omega, by omega⟩
  refine ⟨x.toNat, by omega, ?_⟩
  unfold othN
  rw [show ((x.toNat : Nat) : Int) = x by omega, e, Int.toNat_natCast]
theorem adj_ren {m : Nat} (hm : 1 ≤ m) {b : Int} {l : List Ed} (hed : ∀ e ∈ l, edOK m e) {i y : Nat} (hi : i < m) (hy : y < m) : Adj (hL m b l) (othN m b i) ((othN m b y : Nat) : Int) ↔ Adj l i (y : Int) := by
  constructor
  · rintro ⟨e, he, hA⟩
    unfold hL at he
    rw [List.mem_reverse, List.mem_map] at he
    obtain ⟨x, hx, rfl⟩ := he
    obtain ⟨x1, x2, _⟩ := hed x hx
    refine ⟨x, hx, ?_⟩
    unfold AdjE hE at hA
    simp only [othN_int hm] at hA
    rcases hA with ⟨h1, h2⟩ | ⟨h1, h2⟩
    · exact .inr ⟨oth_inj hm x2 ⟨by omega, by omega⟩ h1, oth_inj hm ⟨by omega, by omega⟩ x1 h2⟩
    · exact .inl ⟨oth_inj hm x1 ⟨by omega, by omega⟩ h1, oth_inj hm ⟨by omega, by omega⟩ x2 h2⟩
  · rintro ⟨x, hx, hA⟩
    refine ⟨hE m b x, by unfold hL; rw [List.mem_reverse, List.mem_map]; exact ⟨x, hx, rfl⟩, ?_⟩
    unfold AdjE hE
    simp only [othN_int hm]
    rcases hA with ⟨h1, h2⟩ | ⟨h1, h2⟩
    · exact .inr ⟨by rw [h1], by rw [h2]⟩
    · exact .inl ⟨by rw [h1], by rw [h2]⟩
theorem IsD.ren {m : Nat} (hm : 1 ≤ m) {b : Int} {l : List Ed} (hed : ∀ e ∈ l, edOK m e) {a : Nat} (ha : a < m) {D E : List Int} (h : IsD m l a D) (g : IsD m (hL m b l) (othN m b a) E) :
    (∀ (k i : Nat), i < m → D.getD i 0 = k → 0 ≤ E.getD (othN m b i) 0 ∧ E.getD (othN m b i) 0 ≤ k) ∧ (∀ (k i : Nat), i < m → E.getD (othN m b i) 0 = k → 0 ≤ D.getD i 0 ∧ D.getD i 0 ≤ k) := by
  constructor
  · intro k
    induction k using Nat.strongRecOn with
    | ind k ih =>
      intro i hi hk
      rcases h.back i hi (by omega) with rfl | ⟨y, hy, hA, h1, h2⟩
      · rw [g.zero]; omega
      · match k, ih with
        | 0, _ => omega
        | k + 1, ih =>
          have := ih k (by omega) y hy (by omega)
          have := g.edge _ (othN_lt hm b y) _ (othN_lt hm b i) ((adj_ren hm hed hy hi).2 hA.symm) this.1
          omega
  · intro k
    induction k using Nat.strongRecOn with
    | ind k ih =>
      intro i hi hk
      rcases g.back _ (othN_lt hm b i) (by omega) with e | ⟨y, hy, hA, h1, h2⟩
      · have := oth_inj hm (b := b) (x := i) (y := a) ⟨by omega, by omega⟩ ⟨by omega, by omega⟩ (by rw [← othN_int hm, ← othN_int hm, e])
        obtain rfl : i = a := by omega
        rw [h.zero]; omega
      · obtain ⟨y, hy', rfl⟩ := othN_sur hm b hy
        match k, ih with
        | 0, _ => omega
        | k + 1, ih =>
          have := ih k (by omega) y hy' (by omega)
          have := h.edge y hy' i hi ((adj_ren hm hed hi hy').1 hA).symm this.1
          omega
theorem hL_ed {m : Nat} {b : Int} {l : List Ed} (hc : ckC m l = 0) : ∀ e ∈ hL m b l, edOK m e := by
  obtain ⟨m', hmm, _, _, hed⟩ := ckC_parts (ck_ren (b := b) hc)
  obtain rfl : m = m' := by omega
  exact hed
theorem ds_ren {m : Nat} {b : Int} {l : List Ed} (hc : ckC m l = 0) {a i : Nat} (ha : a < m) (hi : i < m) : (dsF m (hL m b l) (othN m b a)).getD (othN m b i) 0 = (dsF m l a).getD i 0 := by
  obtain ⟨m', hmm, hm, hl64, hed⟩ := ckC_parts hc
  obtain rfl : m = m' := by omega
  have h := (dsF_is hed hm.2 ha).1
  have g := (dsF_is (hL_ed (b := b) hc) hm.2 (othN_lt hm.1 b a)).1
  obtain ⟨p1, p2⟩ := h.ren hm.1 hed ha g
  have h1 := h.low i hi
  have h2 := g.low _ (othN_lt hm.1 b i)
  by_cases hD : 0 ≤ (dsF m l a).getD i 0
  · obtain ⟨k, hk⟩ := Int.eq_ofNat_of_zero_le hD
    have a1 := p1 k i hi hk
    obtain ⟨k', hk'⟩ := Int.eq_ofNat_of_zero_le a1.1
    have a2 := p2 k' i hi hk'
    omega
  · by_cases hE : 0 ≤ (dsF m (hL m b l) (othN m b a)).getD (othN m b i) 0
    · obtain ⟨k', hk'⟩ := Int.eq_ofNat_of_zero_le hE
      have a2 := p2 k' i hi hk'
      omega
    · omega
theorem mxF_spec : ∀ (l : List Int) (g : Int), g ≤ mxF g l ∧ (∀ x ∈ l, x ≤ mxF g l) ∧ (mxF g l = g ∨ mxF g l ∈ l)
  | [], g => ⟨Int.le_refl _, fun x hx => (by cases hx), .inl rfl⟩
  | y :: l, g => by
    have e : mxF g (y :: l) = mxF (if g < y then y else g) l := rfl
    obtain ⟨h1, h2, h3⟩ := mxF_spec l (if g < y then y else g)
    rw [e]
    have h4 : g ≤ (if g < y then y else g) ∧ y ≤ (if g < y then y else g) ∧ ((if g < y then y else g) = g ∨ (if g < y then y else g) = y) := by split <;> omega
    generalize (if g < y then y else g) = q at *
    refine ⟨by omega, fun x hx => ?_, ?_⟩
    · rcases List.mem_cons.1 hx with rfl | hx
      · omega
      · exact h2 x hx
    · rcases h3 with h3 | h3
      · rcases h4.2.2 with h5 | h5
        · exact .inl (by omega)
        · right; rw [h3, h5]; simp
      · exact .inr (by simp [h3])
theorem dmS_spec {m : Nat} {l : List Ed} (hlen : ∀ a < m, (dsF m l a).length = m) : ∀ k, k ≤ m → 0 ≤ dmS m l k ∧ (∀ a < k, ∀ i < m, (dsF m l a).getD i 0 ≤ dmS m l k) ∧ (dmS m l k = 0 ∨ ∃ a < k, ∃ i < m, (dsF m l a).getD i 0 = dmS m l k)
  | 0, _ => ⟨Int.le_refl _, fun a ha => absurd ha (by omega), .inl rfl⟩
  | k + 1, hk => by
    obtain ⟨h1, h2, h3⟩ := dmS_spec hlen k (by omega)
    obtain ⟨g1, g2, g3⟩ := mxF_spec (dsF m l k) (dmS m l k)
    have e : dmS m l (k + 1) = mxF (dmS m l k) (dsF m l k) := rfl
    rw [e]
    refine ⟨by omega, fun a ha i hi => ?_, ?_⟩
    · by_cases hak : a = k
      · subst hak
        exact g2 _ (getD_mem _ _ _ (by rw [hlen a (by omega)]; exact hi))
      · have := h2 a (by omega) i hi; omega
    · rcases g3 with g3 | g3
      · rcases h3 with h3 | ⟨a, ha, i, hi, h3⟩
        · exact .inl (by omega)
        · exact .inr ⟨a, by omega, i, hi, by omega⟩
      · obtain ⟨i, hi, hie⟩ := List.mem_iff_getElem.1 g3
        refine .inr ⟨k, by omega, i, by rw [hlen k (by omega)] at hi; exact hi, ?_⟩
        rw [List.getD_eq_getElem?_getD, List.getElem?_eq_getElem hi]; simpa using hie
theorem dm_ren {m : Nat} {b : Int} {l : List Ed} (hc : ckC m l = 0) : dmS m (hL m b l) m = dmS m l m := by
  obtain ⟨m', hmm, hm, hl64, hed⟩ := ckC_parts hc
  obtain rfl : m = m' := by omega
  obtain ⟨p0, p1, p2⟩ := dmS_spec (l := l) (fun a ha => (dsF_is hed hm.2 ha).1.len) m (Nat.le_refl _)
  obtain ⟨q0, q1, q2⟩ := dmS_spec (l := hL m b l) (fun a ha => (dsF_is (hL_ed hc) hm.2 ha).1.len) m (Nat.le_refl _)
  have h1 : dmS m l m ≤ dmS m (hL m b l) m := by
    rcases p2 with h | ⟨a, ha, i, hi, h⟩
    · omega
    · have := q1 _ (othN_lt hm.1 b a) _ (othN_lt hm.1 b i)
      rw [ds_ren hc ha hi] at this
      omega
  have h2 : dmS m (hL m b l) m ≤ dmS m l m := by
    rcases q2 with h | ⟨a, ha, i, hi, h⟩
    · omega
    · obtain ⟨a', ha', rfl⟩ := othN_sur hm.1 b ha
      obtain ⟨i', hi', rfl⟩ := othN_sur hm.1 b hi
      rw [ds_ren hc ha' hi'] at h
      have := p1 _ ha' _ hi'
      omega
  omega
end Go.Vx.L18

/- Lemmas of a small executor for the model, and contracts of functions, used for the law that this claim proves. No condition. -/
import Derived.Test.YtpohlkhnilcfnaaEH17
import Derived.Test.YtpohlkhnilcfnaaEH15
set_option linter.unusedSimpArgs false
set_option linter.unusedVariables false
set_option maxRecDepth 100000
namespace Go.Vx.I23
open Go Go.Proofs
theorem tgN_get (span : Int) (m l : List Int) : ∀ k i, i < k → (tgN span m l k).getD i cd0 = tgC span m i (l.getD i 0)
  | 0, _, h => by omega
  | k + 1, i, h => by
    simp only [tgN]
    have hl := tgN_len span m l k
    rcases Nat.lt_or_ge i k with h1 | h1
    · rw [List.getD_eq_getElem?_getD, List.getElem?_append_left (by omega), ← List.getD_eq_getElem?_getD]; exact tgN_get span m l k i h1
    · have : i = k := by omega
      subst this
      rw [List.getD_eq_getElem?_getD, List.getElem?_append_right (by omega), hl, Nat.sub_self]; rfl
theorem tgN_mem (span : Int) (m l : List Int) (k : Nat) (c : Cd) (h : c ∈ tgN span m l k) : ∃ i, i < k ∧ c = tgC span m i (l.getD i 0) := by
  obtain ⟨i, hi, e⟩ := List.mem_iff_getElem.1 h
  rw [tgN_len] at hi
  refine ⟨i, hi, ?_⟩
  rw [← tgN_get span m l k i hi, List.getD_eq_getElem?_getD, List.getElem?_eq_getElem (by rw [tgN_len]; exact hi)]
  exact e.symm
theorem tgN_id (span : Int) (m l : List Int) : ∀ k, (tgN span m l k).map Cd.id = (List.range k).map fun (i : Nat) => 100 - (i : Int)
  | 0 => rfl
  | k + 1 => by simp only [tgN, List.map_append, tgN_id span m l k, List.range_succ]; rfl
theorem tlo_spec (v : List Iv) (hv : ∀ p ∈ v, -4611686018427387904 < p.1) : ∀ k, k ≤ v.length → (∀ p ∈ v.take k, p.1 ≤ tloN v k) ∧ (0 < k → ∃ p ∈ v.take k, p.1 = tloN v k) ∧ -4611686018427387904 ≤ tloN v k
  | 0, _ => by simp [tloN]
  | k + 1, hk => by
    obtain ⟨h1, h2, h3⟩ := tlo_spec v hv k (by omega)
    rw [take_succ' v k (0, 0) (by omega)]
    have hm := hv _ (getD_mem v k (0, 0) (by omega))
    simp only [tloN]
    split
    · rename_i hg
      refine ⟨fun p hp => ?_, fun _ => ⟨_, by simp, rfl⟩, by omega⟩
      simp only [List.mem_append, List.mem_singleton] at hp
      rcases hp with hp | rfl
      · have := h1 p hp; omega
      · exact Int.le_refl _
    · rename_i hg
      refine ⟨fun p hp => ?_, fun _ => ?_, h3⟩
      · simp only [List.mem_append, List.mem_singleton] at hp
        rcases hp with hp | rfl
        · exact h1 p hp
        · omega
      · rcases Nat.eq_zero_or_pos k with h | h
        · subst h; simp only [tloN] at hg; omega
        · obtain ⟨p, hp, e⟩ := h2 h
          exact ⟨p, by simp [hp], e⟩
theorem thi_spec (v : List Iv) (hv : ∀ p ∈ v, p.2 < 4611686018427387904) : ∀ k, k ≤ v.length → (∀ p ∈ v.take k, thiN v k ≤ p.2) ∧ (0 < k → ∃ p ∈ v.take k, p.2 = thiN v k) ∧ thiN v k ≤ 4611686018427387904
  | 0, _ => by simp [thiN]
  | k + 1, hk => by
    obtain ⟨h1, h2, h3⟩ := thi_spec v hv k (by omega)
    rw [take_succ' v k (0, 0) (by omega)]
    have hm := hv _ (getD_mem v k (0, 0) (by omega))
    simp only [thiN]
    split
    · rename_i hg
      refine ⟨fun p hp => ?_, fun _ => ⟨_, by simp, rfl⟩, by omega⟩
      simp only [List.mem_append, List.mem_singleton] at hp
      rcases hp with hp | rfl
      · have := h1 p hp; omega
      · exact Int.le_refl _
    · rename_i hg
      refine ⟨fun p hp => ?_, fun _ => ?_, h3⟩
      · simp only [List.mem_append, List.mem_singleton] at hp
        rcases hp with hp | rfl
        · exact h1 p hp
        · omega
      · rcases Nat.eq_zero_or_pos k with h | h
        · subst h; simp only [thiN] at hg; omega
        · obtain ⟨p, hp, e⟩ := h2 h
          exact ⟨p, by simp [hp], e⟩
/-- What Together asks. -/
theorem tog_fact {O M : List Int} (h1 : 0 < O.length) (h12 : O.length ≤ 12) (hO : ∀ o ∈ O, -2147483648 ≤ o ∧ o ≤ 2147483647) (hM : ∀ o ∈ M, 0 ≤ o ∧ o ≤ 65535) {span : Int} (hsp : span = mxN O (O.length - 1) - mnN O (O.length - 1))
    {C : List Cd} (hC : C = tgN span M O O.length) : ckC C = 0 ∧ selP C = (fitL (inIv (tloN (spans C) C.length, thiN (spans C) C.length)) C, (tloN (spans C) C.length, thiN (spans C) C.length), 0) ∧
      (fitL (inIv (tloN (spans C) C.length, thiN (spans C) C.length)) C).length = C.length ∧ (falP C).2 = 0 ∧ (falP C).1.length = 0 := by
  obtain ⟨x1, x2⟩ := mxN_spec O (O.length - 1) (by omega)
  obtain ⟨y1, y2⟩ := mnN_spec O (O.length - 1) (by omega)
  have hx := hO _ x1
  have hy := hO _ y1
  have hg : ∀ o ∈ O, mnN O (O.length - 1) ≤ o ∧ o ≤ mxN O (O.length - 1) := fun o ho => by
    obtain ⟨i, hi, e⟩ := List.mem_iff_getElem.1 ho
    have a := x2 i (by omega)
    have b := y2 i (by omega)
    rw [List.getD_eq_getElem?_getD, List.getElem?_eq_getElem hi] at a b
    simp only [Option.getD_some, e] at a b
    exact ⟨b, a⟩
  have hlen : C.length = O.length := by rw [hC, tgN_len]
  have hmem : ∀ c ∈ C, ∃ i, i < O.length ∧ c = tgC span M i (O.getD i 0) := fun c hc => tgN_mem span M O _ c (hC ▸ hc)
  have hc : ∀ c ∈ C, ∃ i : Nat, i < 12 ∧ c.id = 100 - (i : Int) ∧ c.off ∈ O ∧ span ≤ c.dist ∧ c.dist ≤ span + 65535 ∧ c.jit = 0 ∧ c.str = 2 := fun c hc => by
    obtain ⟨i, hi, rfl⟩ := hmem c hc
    refine ⟨i, by omega, rfl, getD_mem O i 0 hi, ?_, ?_, rfl, rfl⟩
    · simp only [tgC]; split
      · rename_i hm; have := hM _ (getD_mem M i 0 hm); omega
      · omega
    · simp only [tgC]; split
      · rename_i hm; have := hM _ (getD_mem M i 0 hm); omega
      · omega
  have hck : ckC C = 0 := by
    rw [ckC_iff]
    refine ⟨by omega, fun c hc' => ?_, ?_⟩
    · obtain ⟨i, i1, i2, i3, i4, i5, i6, i7⟩ := hc c hc'
      have := hO _ i3
      have := hg _ i3
      simp only [cdOK, decide_eq_true_eq]; omega
    · rw [hC, tgN_id]
      refine List.Pairwise.map _ (fun a b h => ?_) List.nodup_range
      exact fun e => h (by omega)
  have hin : ∀ c ∈ C, ∀ o ∈ O, c.off - c.dist ≤ o ∧ o ≤ c.off + c.dist := fun c hc' o ho => by
    obtain ⟨i, i1, i2, i3, i4, i5, i6, i7⟩ := hc c hc'
    have := hg _ i3
    have := hg _ ho
    omega
  have hvb : ∀ p ∈ spans C, -4611686018427387904 < p.1 ∧ p.2 < 4611686018427387904 := fun p hp => by
    obtain ⟨c, hc', rfl⟩ := List.mem_map.1 hp
    have := spanC_bd ((ck0 hck).2 c hc')
    omega
  obtain ⟨l1, l2, _⟩ := tlo_spec (spans C) (fun p hp => (hvb p hp).1) C.length (by rw [spans_len]; omega)
  obtain ⟨k1, k2, _⟩ := thi_spec (spans C) (fun p hp => (hvb p hp).2) C.length (by rw [spans_len]; omega)
  have htake : (spans C).take C.length = spans C := List.take_of_length_le (by rw [spans_len]; omega)
  rw [htake] at l1 l2 k1 k2
  generalize tloN (spans C) C.length = lo at *
  generalize thiN (spans C) C.length = hi at *
  obtain ⟨p, hp, ep⟩ := l2 (by omega)
  obtain ⟨q, hq, eq⟩ := k2 (by omega)
  have hall : ∀ r ∈ spans C, ∀ o ∈ O, r.1 ≤ o ∧ o ≤ r.2 := fun r hr o ho => by
    obtain ⟨c, hc', rfl⟩ := List.mem_map.1 hr
    exact hin c hc' o ho
  have hne : O.getD 0 0 ∈ O := getD_mem O 0 0 h1
  have full : ∀ t, (∀ r ∈ spans C, r.1 ≤ t ∧ t ≤ r.2) → (cnt (spans C) t) = C.length := fun t ht => by
    rw [cnt, ← spans_len C, List.countP_eq_length]
    intro r hr; simp only [inB, decide_eq_true_eq]; exact ht r hr
  have hlofull : (cnt (spans C) lo) = C.length := full lo fun r hr => by
    have a := l1 r hr
    have b := hall r hr _ hne
    have c := hall p hp _ hne
    omega
  have hhifull : (cnt (spans C) hi) = C.length := full hi fun r hr => by
    have a := k1 r hr
    have b := hall r hr _ hne
    have c := hall q hq _ hne
    omega
  have hH : IsHull (spans C) C.length lo hi := by
    refine ⟨⟨p, hp, ep, by omega⟩, fun r hr hcr => ?_, ⟨q, hq, eq, by omega⟩, fun r hr hcr => ?_⟩
    · have e : cnt (spans C) r.1 = (spans C).length := by
        have := List.countP_le_length (p := inB r.1) (l := spans C)
        rw [cnt] at hcr ⊢; rw [spans_len] at this ⊢; omega
      rw [cnt, List.countP_eq_length] at e
      have := e p hp
      simp only [inB, decide_eq_true_eq] at this; omega
    · have e : cnt (spans C) r.2 = (spans C).length := by
        have := List.countP_le_length (p := inB r.2) (l := spans C)
        rw [cnt] at hcr ⊢; rw [spans_len] at this ⊢; omega
      rw [cnt, List.countP_eq_length] at e
      have := e q hq
      simp only [inB, decide_eq_true_eq] at this; omega
  have hV : hullV (spans C) ((C.length : Int) - (0 : Nat)) = ((lo, hi), true) := by
    rw [show ((C.length : Int) - (0 : Nat)) = C.length by omega]
    rcases hullV_spec hck (C.length : Int) (by omega) with ⟨_, b, c⟩ | ⟨b, _⟩
    · obtain ⟨e1, e2⟩ := c.uniq hH
      exact Prod.ext (Prod.ext e1 e2) b
    · exact absurd ⟨p, hp, by rw [ep]; omega⟩ b
  have hins : ∀ c ∈ C, inIv (lo, hi) c = true := fun c hc' => by
    obtain ⟨i, i1, i2, i3, _⟩ := hc c hc'
    have a := hall p hp _ i3
    have b := hall q hq _ i3
    simp only [inIv, decide_eq_true_eq]; omega
  have hfl : (fitL (inIv (lo, hi)) C).length = C.length := by
    rw [fitL_count, List.countP_eq_length]; exact hins
  have hb := fit_both (inIv (lo, hi)) C
  have hsel : selI C = some (lo, hi) := by
    unfold selI
    simp only [selN]
    rw [if_pos (by omega)]
    have : okA C 0 = true := by
      simp only [okA, hV, Bool.true_and, decide_eq_true_eq]; omega
    rw [if_pos this, hV]
  have hP := sel_some hck hsel
  refine ⟨hck, hP, hfl, ?_, ?_⟩
  · rw [fal_ok (by rw [hP])]
  · rw [fal_ok (by rw [hP]), hP]; simp only; omega
end Go.Vx.I23

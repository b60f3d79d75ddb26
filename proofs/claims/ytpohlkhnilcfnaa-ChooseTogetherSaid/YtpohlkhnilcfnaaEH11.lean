/- Lemmas of a small executor for the model, and contracts of functions, used for the law that this claim proves. No condition. -/
import Derived.Test.YtpohlkhnilcfnaaEH10
import Derived.Test.YtpohlkhnilcfnaaEH9
set_option linter.unusedSimpArgs false
set_option linter.unusedVariables false
set_option maxRecDepth 100000
namespace Go.Vx.I23
open Go Go.Proofs
/-! All offsets greater by d. -/
def shC (d : Int) (c : Cd) : Cd := { c with off := c.off + d }
def shI (d : Int) (p : Iv) : Iv := (p.1 + d, p.2 + d)
theorem spans_sh (d : Int) (l : List Cd) : spans (l.map (shC d)) = (spans l).map (shI d) := by
  simp only [spans, List.map_map]
  congr 1
  funext c
  simp only [Function.comp, shC, shI, spanC, Prod.mk.injEq]
  omega
theorem cnt_sh (d t : Int) (v : List Iv) : cnt (v.map (shI d)) (t + d) = cnt v t := by
  simp only [cnt, List.countP_map]
  congr 1
  funext p
  simp only [Function.comp, inB, shI]
  congr 1
  rw [eq_iff_iff]
  constructor <;> intro h <;> omega
theorem IsHull.sh {v : List Iv} {g lo hi : Int} (d : Int) (h : IsHull v g lo hi) : IsHull (v.map (shI d)) g (lo + d) (hi + d) := by
  obtain ⟨⟨p, hp, e1, c1⟩, m1, ⟨q, hq, e2, c2⟩, m2⟩ := h
  refine ⟨⟨shI d p, List.mem_map.2 ⟨p, hp, rfl⟩, by simp only [shI]; omega, by rw [cnt_sh]; exact c1⟩, ?_, ⟨shI d q, List.mem_map.2 ⟨q, hq, rfl⟩, by simp only [shI]; omega, by rw [cnt_sh]; exact c2⟩, ?_⟩
  · intro p' hp' hc
    obtain ⟨r, hr, rfl⟩ := List.mem_map.1 hp'
    simp only [shI] at hc ⊢
    rw [cnt_sh] at hc
    have := m1 r hr hc; omega
  · intro p' hp' hc
    obtain ⟨r, hr, rfl⟩ := List.mem_map.1 hp'
    simp only [shI] at hc ⊢
    rw [cnt_sh] at hc
    have := m2 r hr hc; omega
theorem hullV_sh {l : List Cd} {d : Int} (h : ckC l = 0) (h' : ckC (l.map (shC d)) = 0) (g : Int) (hg : 0 < g) :
    (hullV (spans (l.map (shC d))) g).2 = (hullV (spans l) g).2 ∧ ((hullV (spans l) g).2 = true → (hullV (spans (l.map (shC d))) g).1 = shI d (hullV (spans l) g).1) := by
  rcases hullV_spec h g hg with ⟨⟨p, hp, hc⟩, h2, h3⟩ | ⟨h1, h2⟩
  · rcases hullV_spec h' g hg with ⟨_, k2, k3⟩ | ⟨k1, _⟩
    · refine ⟨by rw [h2, k2], fun _ => ?_⟩
      have := h3.sh d
      rw [← spans_sh] at this
      obtain ⟨e1, e2⟩ := k3.uniq this
      exact Prod.ext e1 e2
    · exfalso; refine k1 ⟨shI d p, by rw [spans_sh]; exact List.mem_map.2 ⟨p, hp, rfl⟩, ?_⟩
      rw [spans_sh]; simp only [shI]; rw [cnt_sh]; exact hc
  · rcases hullV_spec h' g hg with ⟨⟨p, hp, hc⟩, _, _⟩ | ⟨_, k2⟩
    · exfalso
      rw [spans_sh] at hp hc
      obtain ⟨r, hr, rfl⟩ := List.mem_map.1 hp
      simp only [shI] at hc
      rw [cnt_sh] at hc
      exact h1 ⟨r, hr, hc⟩
    · rw [h2, k2]; exact ⟨rfl, fun h => by cases h⟩
theorem getD_map {α β : Type} (f : α → β) (l : List α) (k : Nat) (d : α) (e : β) (h : k < l.length) : (l.map f).getD k e = f (l.getD k d) := by
  simp [List.getD_eq_getElem?_getD, List.getElem?_eq_getElem h]
theorem fitN_sh (p q : Cd → Bool) (d : Int) (l : List Cd) (h : ∀ c, q (shC d c) = p c) : ∀ k, k ≤ l.length → fitN q (l.map (shC d)) k = fitN p l k
  | 0, _ => rfl
  | k + 1, hk => by
    simp only [fitN, fitN_sh p q d l h k (by omega)]
    rw [getD_map (shC d) l k cd0 cd0 (by omega), h]
theorem fitL_sh (p q : Cd → Bool) (d : Int) (l : List Cd) (h : ∀ c, q (shC d c) = p c) : fitL q (l.map (shC d)) = fitL p l := by
  unfold fitL; rw [List.length_map]; exact fitN_sh p q d l h _ (Nat.le_refl _)
theorem inIv_sh (d : Int) (iv : Iv) (c : Cd) : inIv (shI d iv) (shC d c) = inIv iv c := by
  simp only [inIv, shI, shC]
  congr 1; rw [eq_iff_iff]; constructor <;> intro h <;> omega
theorem selN_sh {l : List Cd} {d : Int} (h : ckC l = 0) (h' : ckC (l.map (shC d)) = 0) : ∀ f a, selN (l.map (shC d)) f a = (selN l f a).map (shI d)
  | 0, _ => rfl
  | f + 1, a => by
    simp only [selN, List.length_map]
    by_cases ha : 2 * a < l.length
    · rw [if_pos ha, if_pos ha]
      obtain ⟨e1, e2⟩ := hullV_sh h h' ((l.length : Int) - a) (by omega)
      have ek : okA (l.map (shC d)) a = okA l a := by
        simp only [okA, List.length_map, e1]
        cases hb : (hullV (spans l) ((l.length : Int) - a)).2 with
        | false => rfl
        | true =>
          have hf := fitL_sh (fun c => !inIv (hullV (spans l) ((l.length : Int) - a)).1 c) (fun c => !inIv (shI d (hullV (spans l) ((l.length : Int) - a)).1) c) d l (fun c => by simp only [inIv_sh])
          rw [e2 hb, hf]
      rw [ek]
      by_cases hk : okA l a = true
      · rw [if_pos hk, if_pos hk, Option.map_some]
        congr 1
        refine e2 ?_
        simp only [okA, Bool.and_eq_true] at hk; exact hk.1
      · rw [if_neg hk, if_neg hk]; exact selN_sh h h' f (a + 1)
    · rw [if_neg ha, if_neg ha]; rfl
theorem selP_sh {l : List Cd} {d : Int} (h : ckC l = 0) (h' : ckC (l.map (shC d)) = 0) :
    (selP (l.map (shC d))).1 = (selP l).1 ∧ (selP (l.map (shC d))).2.2 = (selP l).2.2 ∧ ((selP l).2.2 = 0 → (selP (l.map (shC d))).2.1 = shI d (selP l).2.1) ∧ ((selP l).2.2 ≠ 0 → (selP l).1 = []) := by
  have e : selI (l.map (shC d)) = (selI l).map (shI d) := by unfold selI; rw [List.length_map]; exact selN_sh h h' _ _
  cases hs : selI l with
  | none => rw [sel_none h hs, sel_none h' (by rw [e, hs]; rfl)]; exact ⟨rfl, rfl, fun h => (by cases h), fun _ => rfl⟩
  | some iv =>
    rw [sel_some h hs, sel_some h' (iv := shI d iv) (by rw [e, hs]; rfl)]
    exact ⟨fitL_sh _ _ d l fun c => inIv_sh d iv c, rfl, fun _ => rfl, fun h => absurd rfl h⟩
/-! The opposite order. -/
theorem spans_rev (l : List Cd) : spans l.reverse = (spans l).reverse := by simp only [spans, List.map_reverse]
theorem cntrev (v : List Iv) (t : Int) : cnt v.reverse t = cnt v t := by simp only [cnt, List.countP_reverse]
theorem IsHull.rev {v : List Iv} {g lo hi : Int} (h : IsHull v g lo hi) : IsHull v.reverse g lo hi := by
  obtain ⟨⟨p, hp, e1, c1⟩, m1, ⟨q, hq, e2, c2⟩, m2⟩ := h
  refine ⟨⟨p, by simpa using hp, e1, by rw [cntrev]; exact c1⟩, fun r hr hc => m1 r (by simpa using hr) (by rw [cntrev] at hc; exact hc), ⟨q, by simpa using hq, e2, by rw [cntrev]; exact c2⟩, fun r hr hc => m2 r (by simpa using hr) (by rw [cntrev] at hc; exact hc)⟩
theorem hullV_rev {l : List Cd} (h : ckC l = 0) (g : Int) (hg : 0 < g) : hullV (spans l.reverse) g = hullV (spans l) g := by
  rcases hullV_spec h g hg with ⟨⟨p, hp, hc⟩, h2, h3⟩ | ⟨h1, h2⟩
  · rcases hullV_spec (ckC_rev h) g hg with ⟨_, k2, k3⟩ | ⟨k1, _⟩
    · have := h3.rev
      rw [← spans_rev] at this
      obtain ⟨e1, e2⟩ := k3.uniq this
      exact Prod.ext (Prod.ext e1 e2) (by rw [h2, k2])
    · exfalso; refine k1 ⟨p, by rw [spans_rev]; simpa using hp, ?_⟩
      rw [spans_rev, cntrev]; exact hc
  · rcases hullV_spec (ckC_rev h) g hg with ⟨⟨p, hp, hc⟩, _, _⟩ | ⟨_, k2⟩
    · exfalso
      rw [spans_rev] at hp hc
      rw [cntrev] at hc
      exact h1 ⟨p, by simpa using hp, hc⟩
    · rw [h2, k2]
theorem fitL_len_rev (p : Cd → Bool) (l : List Cd) : (fitL p l.reverse).length = (fitL p l).length := by rw [fitL_count, fitL_count, List.countP_reverse]
theorem selN_rev {l : List Cd} (h : ckC l = 0) : ∀ f a, selN l.reverse f a = selN l f a
  | 0, _ => rfl
  | f + 1, a => by
    simp only [selN, List.length_reverse]
    by_cases ha : 2 * a < l.length
    · rw [if_pos ha, if_pos ha]
      have ek : okA l.reverse a = okA l a := by
        simp only [okA, List.length_reverse, hullV_rev h ((l.length : Int) - a) (by omega), fitL_len_rev]
      rw [ek, hullV_rev h _ (by omega), selN_rev h f (a + 1)]
    · rw [if_neg ha, if_neg ha]
theorem fitN_range (p : Cd → Bool) (l : List Cd) : ∀ k, fitN p l k = ((List.range k).filter fun i => p (l.getD i cd0)).map fun (i : Nat) => (i : Int)
  | 0 => rfl
  | k + 1 => by
    rw [List.range_succ, List.filter_append, List.map_append, ← fitN_range p l k]
    simp only [fitN]
    congr 1
    by_cases h : p (l.getD k cd0) = true
    · rw [if_pos h]; simp only [List.filter_cons, List.filter_nil, h, if_true, List.map_cons, List.map_nil]
    · rw [if_neg h]; simp only [List.filter_cons, List.filter_nil, if_neg h, List.map_nil]
theorem range_turn (n : Nat) : List.range n = (List.range n).reverse.map fun i => n - 1 - i := by
  apply List.ext_getElem
  · simp
  · intro i h1 h2
    simp at h1
    simp [List.getElem_reverse]
    omega
theorem fitL_rev (p : Cd → Bool) (l : List Cd) : fitL p l.reverse = ((fitL p l).map fun x => (l.length : Int) - 1 - x).reverse := by
  unfold fitL
  rw [fitN_range, fitN_range, List.length_reverse]
  have e : (List.range l.length).filter (fun i => p (l.reverse.getD i cd0)) = (((List.range l.length).filter fun i => p (l.getD i cd0)).reverse).map fun i => l.length - 1 - i := by
    conv => lhs; rw [range_turn l.length]
    rw [List.filter_map, ← List.filter_reverse]
    congr 1
    refine List.filter_congr fun i hi => ?_
    have hi' : i < l.length := by simpa using hi
    simp only [Function.comp]
    congr 1
    simp only [List.getD_eq_getElem?_getD]
    rw [List.getElem?_reverse (by omega)]
    congr 2; omega
  rw [e, List.map_map, List.map_map, ← List.map_reverse]
  refine List.map_congr_left fun i hi => ?_
  have hi' : i < l.length := by
    rw [List.mem_reverse, List.mem_filter] at hi
    simpa using hi.1
  simp only [Function.comp]
  omega
theorem selP_rev {l : List Cd} (h : ckC l = 0) : (selP l.reverse).1 = ((selP l).1.map fun x => (l.length : Int) - 1 - x).reverse ∧ (selP l.reverse).2 = (selP l).2 := by
  have e : selI l.reverse = selI l := by unfold selI; rw [List.length_reverse]; exact selN_rev h _ _
  cases hs : selI l with
  | none => rw [sel_none h hs, sel_none (ckC_rev h) (by rw [e, hs])]; exact ⟨rfl, rfl⟩
  | some iv => rw [sel_some h hs, sel_some (ckC_rev h) (by rw [e, hs])]; exact ⟨fitL_rev _ _, rfl⟩
end Go.Vx.I23

/- Lemmas of a small executor for the model, and contracts of functions, used for the law that this claim proves. No condition. -/
import Derived.Test.YteefcjenckgaaaaM9
set_option linter.unusedSimpArgs false
set_option linter.unusedVariables false
set_option maxRecDepth 100000
namespace Go.Vx.L28
open Go Go.Proofs
/-- The program's limiter and the reference's are alike. -/
structure Sim (s : PS) (q : RS) : Prop where
  now : s.now = q.now
  sorted : (idsC q.l).Pairwise (· < ·)
  mem : ∀ n, n ∈ s.ks ↔ n ∈ idsC q.l
  val : ∀ x ∈ q.l, s.g x.id = x.r
theorem ids_len (l : List Cl) : (idsC l).length = l.length := by simp [idsC]
theorem ids_get (l : List Cl) (k : Nat) (h : k < l.length) : (idsC l)[k]'(by rw [ids_len]; exact h) = (l.getD k cl0).id := by
  simp [idsC, List.getD_eq_getElem?_getD, List.getElem?_eq_getElem h]
theorem sorted_nodup {l : List Int} (h : l.Pairwise (· < ·)) : l.Nodup := h.imp fun h => by omega
theorem sim_len {c : Cf} {s : PS} {q : RS} (hs : PInv c s) (h : Sim s q) : s.ks.length = q.l.length := by
  have h1 := sub_len s.ks (idsC q.l) hs.2.2.1 fun k hk => (h.mem k).1 hk
  have h2 := sub_len (idsC q.l) s.ks (sorted_nodup h.sorted) fun k hk => (h.mem k).2 hk
  rw [ids_len] at h1 h2
  omega
theorem sim_rinv {c : Cf} {s : PS} {q : RS} (hs : PInv c s) (h : Sim s q) : RInv c q := by
  have hl := sim_len hs h
  obtain ⟨h1, h2, h3, h4, h5⟩ := hs
  refine ⟨h.now ▸ h1, h.now ▸ h2, by omega, fun x hx => ?_⟩
  have hm : x.id ∈ s.ks := (h.mem _).2 (List.mem_map.2 ⟨x, hx, rfl⟩)
  have := (h5 _ hm).2.2
  rw [h.val x hx, h.now] at this
  exact this
theorem findC_mem {n : Int} : ∀ {l : List Cl}, n ∈ idsC l → ∃ k, findC n l = some k
  | [], h => by simp [idsC] at h
  | a :: r, h => by
    unfold findC
    split
    · exact ⟨0, rfl⟩
    · rename_i hne
      have : n ∈ idsC r := by
        simp only [idsC, List.map_cons, List.mem_cons] at h
        rcases h with h | h
        · exact absurd h.symm hne
        · exact h
      obtain ⟨k, hk⟩ := findC_mem this
      exact ⟨k + 1, by rw [hk]; rfl⟩
theorem findC_not {n : Int} {l : List Cl} (h : n ∉ idsC l) : findC n l = none := by
  cases hf : findC n l with
  | none => rfl
  | some k =>
    obtain ⟨h1, h2⟩ := findC_spec hf
    exact absurd (List.mem_map.2 ⟨_, getD_mem l k cl0 h1, h2⟩) h
/-- What is asked of a client that the program knows. -/
theorem sim_found {s : PS} {q : RS} (h : Sim s q) {n : Int} (hn : n ∈ s.ks) : ∃ k, findC n q.l = some k ∧ k < q.l.length ∧ (q.l.getD k cl0).id = n ∧ (q.l.getD k cl0).r = s.g n := by
  obtain ⟨k, hk⟩ := findC_mem ((h.mem n).1 hn)
  obtain ⟨h1, h2⟩ := findC_spec hk
  exact ⟨k, hk, h1, h2, by rw [← h2]; exact (h.val _ (getD_mem q.l k cl0 h1)).symm⟩
theorem ids_set (l : List Cl) (k : Nat) (r : Rec) : idsC (l.set k ⟨(l.getD k cl0).id, r⟩) = idsC l := by
  apply List.ext_getElem?
  intro i
  simp only [idsC, List.getElem?_map, List.getElem?_set]
  split
  · rename_i e
    subst e
    split
    · rename_i hlt
      rw [List.getD_eq_getElem?_getD, List.getElem?_eq_getElem hlt]; rfl
    · rename_i hge
      rw [List.getElem?_eq_none (by omega)]
  · rfl
theorem mem_set_cases {l : List Cl} {k : Nat} {y x : Cl} (h : x ∈ l.set k y) : x = y ∨ ∃ j, j ≠ k ∧ l[j]? = some x := by
  obtain ⟨j, hj⟩ := List.mem_iff_getElem?.1 h
  rw [List.getElem?_set] at hj
  split at hj
  · split at hj
    · exact .inl (by simpa using hj.symm)
    · cases hj
  · rename_i hne; exact .inr ⟨j, fun e => hne e.symm, hj⟩
theorem ids_inj {l : List Cl} (h : (idsC l).Nodup) {i j : Nat} {x y : Cl} (hi : l[i]? = some x) (hj : l[j]? = some y) (e : x.id = y.id) : i = j := by
  obtain ⟨hi', ei⟩ := List.getElem?_eq_some_iff.1 hi
  obtain ⟨hj', ej⟩ := List.getElem?_eq_some_iff.1 hj
  have hp := List.pairwise_iff_getElem.1 h
  have e' : (idsC l)[i]'(by rw [ids_len]; exact hi') = (idsC l)[j]'(by rw [ids_len]; exact hj') := by
    simp only [idsC, List.getElem_map, ei, ej, e]
  rcases Nat.lt_trichotomy i j with hlt | he | hlt
  · exact absurd e' (hp i j _ _ hlt)
  · exact he
  · exact absurd e'.symm (hp j i _ _ hlt)
theorem oldN_spec (l : List Cl) : ∀ k, (∀ j, j ≤ k → (l.getD (oldN l k) cl0).r.last ≤ (l.getD j cl0).r.last) ∧ ∀ j, j < oldN l k → (l.getD (oldN l k) cl0).r.last < (l.getD j cl0).r.last
  | 0 => ⟨fun j hj => by have : j = 0 := by omega
                         subst this; exact Int.le_refl _, fun j hj => by simp [oldN] at hj⟩
  | k + 1 => by
    obtain ⟨h1, h2⟩ := oldN_spec l k
    have hle := oldN_le l k
    simp only [oldN]
    split
    · rename_i h
      refine ⟨fun j hj => ?_, fun j hj => ?_⟩
      · rcases Nat.lt_or_ge j (k + 1) with hlt | hge
        · have := h1 j (by omega); omega
        · have : j = k + 1 := by omega
          subst this; exact Int.le_refl _
      · have := h1 j (by omega); omega
    · rename_i h
      refine ⟨fun j hj => ?_, h2⟩
      rcases Nat.lt_or_ge j (k + 1) with hlt | hge
      · exact h1 j (by omega)
      · have : j = k + 1 := by omega
        subst this; omega
/-- Both forget the same client. -/
theorem sim_old {c : Cf} {s : PS} {q : RS} (hs : PInv c s) (h : Sim s q) (h0 : 0 < q.l.length) : old s.g s.ks = (q.l.getD (oldN q.l (q.l.length - 1)) cl0).id := by
  have hne : s.ks ≠ [] := by
    intro e
    have := sim_len hs h
    rw [e] at this; simp at this; omega
  have hle := oldN_le q.l (q.l.length - 1)
  obtain ⟨o1, o2⟩ := oldN_spec q.l (q.l.length - 1)
  generalize hk : oldN q.l (q.l.length - 1) = k at *
  refine old_uniq (l' := idsC q.l) (old_is s.g s.ks hne) ⟨List.mem_map.2 ⟨_, getD_mem q.l k cl0 (by omega), rfl⟩, fun m hm => ?_⟩ h.mem
  obtain ⟨x, hx, rfl⟩ := List.mem_map.1 hm
  rw [h.val x hx, h.val _ (getD_mem q.l k cl0 (by omega))]
  obtain ⟨j, hj⟩ := List.mem_iff_getElem?.1 hx
  obtain ⟨hj1, hj2⟩ := List.getElem?_eq_some_iff.1 hj
  have hxj : q.l.getD j cl0 = x := by rw [List.getD_eq_getElem?_getD, hj]; rfl
  have a1 := o1 j (by omega)
  rw [hxj] at a1
  rcases Nat.lt_or_ge j k with hlt | hge
  · have := o2 j hlt; rw [hxj] at this; left; omega
  · rcases Int.lt_or_le (q.l.getD k cl0).r.last x.r.last with h2 | h2
    · exact .inl h2
    · refine .inr ⟨by omega, ?_⟩
      rcases Nat.eq_or_lt_of_le hge with he | hlt
      · subst he; rw [hxj]; exact Int.le_refl _
      · have hp := List.pairwise_iff_getElem.1 h.sorted k j (by rw [ids_len]; omega) (by rw [ids_len]; exact hj1) hlt
        rw [ids_get _ _ (by omega), ids_get _ _ hj1, hxj] at hp
        omega
theorem ids_erase {l : List Cl} (h : (idsC l).Nodup) {k : Nat} (hk : k < l.length) : idsC (l.eraseIdx k) = (idsC l).erase (l.getD k cl0).id := by
  have hmm : ∀ (l : List Cl) (j : Nat), idsC (l.eraseIdx j) = (idsC l).eraseIdx j := by
    intro l
    induction l with
    | nil => intro j; rfl
    | cons a r ih => intro j; cases j with
      | zero => rfl
      | succ j => simp only [List.eraseIdx_cons_succ, idsC, List.map_cons] at ih ⊢; rw [ih]
  rw [hmm, ← ids_get l k hk, List.erase_eq_eraseIdx_of_idxOf rfl, h.idxOf_getElem]
theorem ins_mem {l : List Cl} {x y : Cl} : y ∈ insC l x ↔ y = x ∨ y ∈ l := by
  have e : y ∈ l ↔ y ∈ l.take (posC x.id l) ∨ y ∈ l.drop (posC x.id l) := by
    rw [← List.mem_append, List.take_append_drop]
  rw [e]
  simp only [insC, List.mem_append, List.mem_singleton]
  constructor
  · rintro ((h | h) | h)
    · exact .inr (.inl h)
    · exact .inl h
    · exact .inr (.inr h)
  · rintro (h | h | h)
    · exact .inl (.inr h)
    · exact .inl (.inl h)
    · exact .inr h
theorem ins_sorted {l : List Cl} {x : Cl} (h : (idsC l).Pairwise (· < ·)) (hx : x.id ∉ idsC l) : (idsC (insC l x)).Pairwise (· < ·) := by
  have hle := posC_le x.id l
  have low : ∀ a ∈ (idsC l).take (posC x.id l), a < x.id := by
    intro a ha
    obtain ⟨j, hj⟩ := List.mem_iff_getElem?.1 ha
    have hjl : j < posC x.id l := by
      have := (List.getElem?_eq_some_iff.1 hj).1
      rw [List.length_take] at this; omega
    rw [List.getElem?_take_of_lt hjl, List.getElem?_eq_getElem (by rw [ids_len]; omega), ids_get l j (by omega)] at hj
    have := posC_low x.id l j hjl
    simp only [Option.some.injEq] at hj
    omega
  have high : ∀ a ∈ (idsC l).drop (posC x.id l), x.id < a := by
    intro a ha
    obtain ⟨j, hj⟩ := List.mem_iff_getElem?.1 ha
    rw [List.getElem?_drop] at hj
    obtain ⟨hjl, ej⟩ := List.getElem?_eq_some_iff.1 hj
    rw [ids_len] at hjl
    have hs := posC_stop x.id l (by omega)
    have h1 : (l.getD (posC x.id l) cl0).id ≤ a := by
      rcases Nat.eq_zero_or_pos j with h0 | h0
      · subst h0
        rw [← ej]
        simp only [Nat.add_zero]
        rw [ids_get l _ (by omega)]; exact Int.le_refl _
      · have hp := List.pairwise_iff_getElem.1 h (posC x.id l) (posC x.id l + j) (by rw [ids_len]; omega) (by rw [ids_len]; exact hjl) (by omega)
        rw [ej, ids_get l _ (by omega)] at hp; omega
    have hne : a ≠ x.id := by
      rintro rfl
      exact hx (ej ▸ List.getElem_mem _)
    omega
  have e : idsC (insC l x) = (idsC l).take (posC x.id l) ++ [x.id] ++ (idsC l).drop (posC x.id l) := by
    simp [idsC, insC, List.map_take, List.map_drop]
  rw [e, List.pairwise_append, List.pairwise_append]
  refine ⟨⟨h.sublist (List.take_sublist ..), by simp, fun a ha b hb => ?_⟩, h.sublist (List.drop_sublist ..), fun a ha b hb => ?_⟩
  · simp only [List.mem_singleton] at hb; subst hb; exact low a ha
  · rcases List.mem_append.1 ha with ha | ha
    · have := low a ha; have := high b hb; omega
    · simp only [List.mem_singleton] at ha; subst ha; exact high b hb
/-- A client that neither knows. -/
theorem sim_ins {ks : List Int} {g : Int → Rec} {l : List Cl} {t n : Int} {r : Rec} (h : Sim ⟨t, ks, g⟩ ⟨t, l⟩) (hn : n ∉ ks) : Sim ⟨t, ks ++ [n], updG g n r⟩ ⟨t, insC l ⟨n, r⟩⟩ := by
  have hni : n ∉ idsC l := fun hh => hn ((h.mem n).2 hh)
  refine ⟨rfl, ins_sorted h.sorted hni, fun m => ?_, fun x hx => ?_⟩
  · simp only [List.mem_append, List.mem_singleton]
    have : m ∈ ks ↔ m ∈ idsC l := h.mem m
    constructor
    · rintro (hm | rfl)
      · obtain ⟨y, hy, e⟩ := List.mem_map.1 (this.1 hm)
        exact List.mem_map.2 ⟨y, ins_mem.2 (.inr hy), e⟩
      · exact List.mem_map.2 ⟨_, ins_mem.2 (.inl rfl), rfl⟩
    · intro hm
      obtain ⟨y, hy, e⟩ := List.mem_map.1 hm
      rcases ins_mem.1 hy with rfl | hy
      · exact .inr e.symm
      · exact .inl (this.2 (List.mem_map.2 ⟨y, hy, e⟩))
  · rcases ins_mem.1 hx with rfl | hx
    · simp [updG]
    · have hne : x.id ≠ n := fun e => hni (e ▸ List.mem_map.2 ⟨x, hx, rfl⟩)
      simp only [updG, if_neg hne]
      exact h.val x hx
theorem sim_ask {c : Cf} {s : PS} {q : RS} {n t : Int} (hc : cfOK c = true) (hs : PInv c s) (h : Sim s q) : (askF c s n t).1 = (raskF c q n t).1 ∧ Sim (askF c s n t).2 (raskF c q n t).2 := by
  have hl := sim_len hs h
  by_cases h1 : n < 0 ∨ ¬ (0 ≤ t ∧ t ≤ 1125899906842624)
  · rw [ask_e1 h1, rask_e1 h1]; exact ⟨rfl, h⟩
  by_cases h2 : t < s.now
  · rw [ask_e2 h1 h2, rask_e2 h1 (by rw [← h.now]; exact h2)]; exact ⟨rfl, h⟩
  have h2' : ¬ t < q.now := by rw [← h.now]; exact h2
  by_cases h3 : n ∈ s.ks
  · obtain ⟨k, hk, hkl, e1, e2⟩ := sim_found h h3
    rw [ask_k h1 h2 h3, rask_k hk h1 h2', e2]
    refine ⟨rfl, ⟨rfl, ?_, ?_, fun x hx => ?_⟩⟩
    · simp only; rw [ids_set]; exact h.sorted
    · simp only; rw [ids_set]; exact h.mem
    · simp only at hx ⊢
      rcases mem_set_cases hx with rfl | ⟨j, hjk, hj⟩
      · simp only [e1, updG, if_true]
      · have hne : x.id ≠ n := fun e => hjk (ids_inj (sorted_nodup h.sorted) hj (y := q.l.getD k cl0) (by rw [List.getD_eq_getElem?_getD, List.getElem?_eq_getElem hkl]; rfl) (by rw [e, e1]))
        simp only [updG, if_neg hne]
        exact h.val x (List.mem_of_getElem? hj)
  · have hnf := findC_not (fun hh => h3 ((h.mem n).2 hh))
    rw [ask_n h1 h2 h3, rask_n hnf h1 h2']
    have hcc := hc
    simp only [cfOK, decide_eq_true_eq] at hcc
    have h4 := hs.2.2.2.1
    have hbase : Sim ⟨t, s.ks, s.g⟩ ⟨t, q.l⟩ := ⟨rfl, h.sorted, h.mem, h.val⟩
    refine ⟨rfl, ?_⟩
    by_cases h5 : c.cap ≤ s.ks.length
    · have h0 : 0 < q.l.length := by omega
      rw [meet_full (s := ⟨t, s.ks, s.g⟩) h5, rmeet_full (by omega)]
      have ho := sim_old hs h h0
      have hk := oldN_le q.l (q.l.length - 1)
      refine sim_ins ⟨rfl, ?_, fun m => ?_, fun x hx => h.val x (List.mem_of_mem_eraseIdx hx)⟩ (fun hh => h3 (List.mem_of_mem_erase hh))
      · simp only; rw [ids_erase (sorted_nodup h.sorted) (by omega)]; exact h.sorted.sublist List.erase_sublist
      · simp only
        rw [ids_erase (sorted_nodup h.sorted) (by omega), ← ho, hs.2.2.1.mem_erase_iff, (sorted_nodup h.sorted).mem_erase_iff, h.mem]
    · rw [meet_room (s := ⟨t, s.ks, s.g⟩) h5, rmeet_room (by omega)]
      exact sim_ins hbase h3
theorem sim_0 : Sim PS0 ⟨0, []⟩ := ⟨rfl, List.Pairwise.nil, fun n => by simp [PS0, idsC], fun x hx => by cases hx⟩
theorem sim_level {s : PS} {q : RS} (h : Sim s q) (n : Int) : (match findC n q.l with | some k => (q.l.getD k cl0).r.level | none => 0) = (if n ∈ s.ks then (s.g n).level else 0) ∧ (findC n q.l).isSome = decide (n ∈ s.ks) := by
  by_cases hn : n ∈ s.ks
  · obtain ⟨k, hk, _, _, e⟩ := sim_found h hn
    rw [hk, if_pos hn, decide_eq_true hn]; exact ⟨congrArg Rec.level e, rfl⟩
  · have := findC_not (fun hh => hn ((h.mem n).2 hh))
    rw [this, if_neg hn, decide_eq_false hn]; exact ⟨rfl, rfl⟩
theorem sim_clients {c : Cf} {s : PS} {q : RS} (hs : PInv c s) (h : Sim s q) : sortK (kz s.ks) = idsC q.l :=
  sortK_eq h.sorted ((List.perm_ext_iff_of_nodup (sorted_nodup h.sorted) hs.2.2.1).2 fun a => (h.mem a).symm)
/-- The limiters behind the first k requests. -/
def pN (c : Cf) (l : List (Int × Int)) : Nat → PS
  | 0 => PS0
  | k + 1 => (askF c (pN c l k) (l.getD k (0, 0)).1 (l.getD k (0, 0)).2).2
def rN (c : Cf) (l : List (Int × Int)) : Nat → RS
  | 0 => ⟨0, []⟩
  | k + 1 => (raskF c (rN c l k) (l.getD k (0, 0)).1 (l.getD k (0, 0)).2).2
theorem bd_get {l : List (Int × Int)} (h : ∀ q ∈ l, q.1 ≤ 9223372036854775807) (k : Nat) : (l.getD k (0, 0)).1 ≤ 9223372036854775807 := by
  rcases Nat.lt_or_ge k l.length with hk | hk
  · exact h _ (getD_mem l k (0, 0) hk)
  · rw [List.getD_eq_getElem?_getD, List.getElem?_eq_none hk]; decide
theorem pN_inv {c : Cf} (hc : cfOK c = true) {l : List (Int × Int)} (hl : ∀ q ∈ l, q.1 ≤ 9223372036854775807) : ∀ k, PInv c (pN c l k)
  | 0 => PInv_0 hc
  | k + 1 => ask_inv hc (pN_inv hc hl k) (bd_get hl k)
theorem pN_sim {c : Cf} (hc : cfOK c = true) {l : List (Int × Int)} (hl : ∀ q ∈ l, q.1 ≤ 9223372036854775807) : ∀ k, Sim (pN c l k) (rN c l k)
  | 0 => sim_0
  | k + 1 => (sim_ask hc (pN_inv hc hl k) (pN_sim hc hl k)).2
end Go.Vx.L28

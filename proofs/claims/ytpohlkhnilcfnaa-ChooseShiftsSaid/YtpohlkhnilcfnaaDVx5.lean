/- Lemmas of a small executor for the model, and contracts of functions, used for the law that this claim proves. No condition. -/
import Derived.Test.YtpohlkhnilcfnaaDVx4
set_option linter.unusedSimpArgs false
set_option linter.unusedVariables false
namespace Go.Vx
variable {P : Program}

theorem addr_add (g o m : Nat) : (⟨g, o, none⟩ : Addr).add m = ⟨g, o + m, none⟩ := by unfold Addr.add; split <;> simp_all

section
variable {ι : Lay} {bs : Nat → Blk} {f f' : Nat} {w : World}

/-- The cells of a source, in the world. -/
structure Src (ι : Lay) (w : World) (sz : Nat) (A : Option Addr) (n : Nat) (news : List Value) (c : Nat → Nat → AV) : Prop where
  len : news.length = n * sz
  at_ : 0 < n → ∃ ad, A = some ad
  cell : ∀ ad, A = some ad → ∀ j u, news[j]? = some u → w.cell? (ad.add j) = some u
  one : ∀ u ∈ news, u.oneCell' = true
  rel : ∀ i, i < n → ∀ j, j < sz → ∃ u, news[i * sz + j]? = some u ∧ rel ι (c i j) u

/-- n elements from element off on, of a block. -/
theorem src_arr {b : Nat} {rw : Bool} {t e m : Nat} {c : Nat → Nat → AV} (hb : BR ι w b (.arr rw t e m c)) {off n : Nat} (h : off + n ≤ m) {a : Option Addr} {k : Nat} (hn : n ≤ k)
    (ha : 0 < k → ∃ l, ι b = some l ∧ a = some ⟨l.g, l.o + off * e, none⟩) : ∃ news, Src ι w e a n news (fun i j => c (off + i) j) := by
  rcases Nat.eq_zero_or_pos n with h0 | h0
  · subst h0
    exact ⟨[], ⟨by simp, (fun h => absurd h (by omega)), (fun _ _ j u hu => by simp at hu), (fun u hu => by simp at hu), (fun i hi => absurd hi (by omega))⟩⟩
  obtain ⟨l, hl, rfl⟩ := ha (by omega)
  rcases hb with ⟨h1, _⟩ | ⟨l', h1, h2, h3, _⟩
  · omega
  rw [hl] at h1; cases h1
  have key : ∀ q, q < n * e → ∃ u, w.cell? ⟨l.g, l.o + off * e + q, none⟩ = some u ∧ u.oneCell' = true ∧ rel ι (c (off + q / e) (q % e)) u := by
    intro q hq
    have he : 0 < e := by rcases Nat.eq_zero_or_pos e with h | h; subst h; simp at hq; exact h
    have h4 : q / e < n := (Nat.div_lt_iff_lt_mul he).2 hq
    obtain ⟨cv, q1, q2, q3⟩ := h3 (off + q / e) (by omega) (q % e) (Nat.mod_lt _ he)
    refine ⟨cv, ?_, q2, q3⟩
    rw [← q1]
    have := Nat.div_add_mod q e
    rw [Nat.add_mul]
    congr 2
    rw [Nat.mul_comm] at this
    omega
  refine ⟨(List.range (n * e)).map fun q => (w.cell? ⟨l.g, l.o + off * e + q, none⟩).getD undef, by simp, fun _ => ⟨_, rfl⟩, fun ad had j u hu => ?_, fun u hu => ?_, fun i hi j hj => ?_⟩
  · cases had
    have hj : j < n * e := by
      rcases Nat.lt_or_ge j (n * e) with h | h
      · exact h
      · rw [List.getElem?_eq_none (by simpa using h)] at hu; cases hu
    obtain ⟨u', q1, _⟩ := key j hj
    rw [List.getElem?_map, List.getElem?_range hj] at hu
    simp only [Option.map_some, q1, Option.getD_some, Option.some.injEq] at hu
    subst hu
    rw [addr_add]; exact q1
  · obtain ⟨q, hq, rfl⟩ := List.mem_map.1 hu
    obtain ⟨u', q1, q2, _⟩ := key q (List.mem_range.1 hq)
    rw [q1]; exact q2
  · have hq : i * e + j < n * e := by
      have : (i + 1) * e ≤ n * e := Nat.mul_le_mul_right _ hi
      rw [Nat.add_mul] at this; omega
    have he : 0 < e := by omega
    obtain ⟨u', q1, _, q3⟩ := key _ hq
    refine ⟨u', by rw [List.getElem?_map, List.getElem?_range hq]; simp [q1], ?_⟩
    rw [Nat.mul_comm i e, Nat.mul_add_div he, Nat.div_eq_of_lt hj, Nat.mul_add_mod, Nat.mod_eq_of_lt hj] at q3
    exact q3

theorem src_ok {sz : Nat} {x : AV} {c : Value} (hx : rel ι x c) (hb : ∀ b, BR ι w b (bs b)) {p : List Prop} {n : Nat} {F : Nat → Nat → AV} (h : srcOf sz x bs = some (p, n, F)) (hp : holdsL p) :
    ∃ A k news, c = .slice A n k ∧ Src ι w sz A n news F := by
  unfold srcOf at h
  split at h
  · simp only [Option.some.injEq, Prod.mk.injEq] at h
    obtain ⟨rfl, rfl, rfl⟩ := h
    simp only [rel] at hx
    subst hx
    exact ⟨none, 0, [], rfl, ⟨by simp, (fun h => absurd h (by omega)), (fun _ h => by cases h), (fun u hu => by simp at hu), (fun i hi => absurd hi (by omega))⟩⟩
  · rename_i b e off n' cap
    split at h
    · rename_i rw t e' m c0 hbb
      cases hq : Nat.beq e' sz && Nat.beq e sz with
      | false => simp [hq] at h
      | true =>
        simp only [hq, cond_true, Option.some.injEq, Prod.mk.injEq] at h
        obtain ⟨rfl, rfl, rfl⟩ := h
        simp only [Bool.and_eq_true] at hq
        have e1 := Nat.eq_of_beq_eq_true hq.1
        have e2 := Nat.eq_of_beq_eq_true hq.2
        subst e1; subst e2
        simp only [rel] at hx
        obtain ⟨a, k, rfl, h1, _, h3⟩ := hx
        have := hb b
        rw [hbb] at this
        obtain ⟨news, hs⟩ := src_arr this hp.1 h1 (fun hk => by obtain ⟨l, q1, q2, _⟩ := h3 hk; exact ⟨l, q1, q2⟩)
        exact ⟨a, k, news, rfl, hs⟩
    · cases h
  · cases h

/-- A new block that holds old elements, then new ones. -/
theorem br_app {ι' : Lay} {w' : World} {g cap sz t len n : Nat} {c0 c : Nat → Nat → AV} {olds news rest : List Value} {C : Array Value} (hf : ι' f = some ⟨g, 0, cap⟩) (hC : w'.heap[g]? = some (.cells C t (0, 0)))
    (hcap : len + n ≤ cap) (hmx : cap ≤ maxLen) (hsz : C.size = cap * sz) (hcs : C.toList = olds ++ news ++ rest) (hlo : olds.length = len * sz) (hln : news.length = n * sz)
    (ho : ∀ u ∈ olds, u.oneCell' = true) (hn : ∀ u ∈ news, u.oneCell' = true)
    (hro : ∀ i, i < len → ∀ j, j < sz → ∃ u, olds[i * sz + j]? = some u ∧ rel ι' (c0 i j) u) (hrn : ∀ i, i < n → ∀ j, j < sz → ∃ u, news[i * sz + j]? = some u ∧ rel ι' (c i j) u) :
    BR ι' w' f (.arr true t sz (len + n) (appF len c0 c)) := by
  refine .inr ⟨_, hf, hcap, fun i hi j hj => ?_, fun _ => ⟨rfl, hmx, C, hC, hsz⟩⟩
  rw [cell_of_row w' g _ C t (0, 0) hC, ← Array.getElem?_toList, hcs, Nat.zero_add]
  by_cases hlt : i < len
  · obtain ⟨u, q1, q2⟩ := hro i hlt j hj
    have hin : i * sz + j < olds.length := (List.getElem?_eq_some_iff.1 q1).1
    refine ⟨u, ?_, ho u (List.mem_of_getElem? q1), ?_⟩
    · rw [List.append_assoc, List.getElem?_append_left hin]; exact q1
    · rw [appF_lt hlt]; exact q2
  · obtain ⟨u, q1, q2⟩ := hrn (i - len) (by omega) j hj
    refine ⟨u, ?_, hn u (List.mem_of_getElem? q1), ?_⟩
    · have hin : (i - len) * sz + j < news.length := (List.getElem?_eq_some_iff.1 q1).1
      have hsub : (i - len) * sz = i * sz - len * sz := Nat.sub_mul _ _ _
      have hle : len * sz ≤ i * sz := Nat.mul_le_mul_right _ (by omega)
      rw [List.append_assoc, List.getElem?_append_right (by omega), List.getElem?_append_left (by omega), ← q1]
      congr 1; omega
    · rw [appF_ge (by omega)]; exact q2

/-- What append leaves where it takes a new block: its new block's number f. -/
theorem app_new (hf : ∀ b, f ≤ b → b < f' → ι b = none ∧ bs b = .gone) (hff : f < f') {te : TyD} (hte : tkOf P te.t = some te) {t : TypeId} (ht : P.underlying t = some (.slice te.t)) (hzz : te.zero.length = te.sz) (hby : 0 < te.bytes)
    (base : Option Addr) (len k : Nat) (olds : List Value) (hlo : olds.length = len * te.sz) (hob : 0 < len → ∃ ad, base = some ad) (hoc : ∀ ad, base = some ad → ∀ j u, olds[j]? = some u → w.cell? (ad.add j) = some u)
    (ho : ∀ u ∈ olds, u.oneCell' = true) {c0 c : Nat → Nat → AV} (hro : ∀ i, i < len → ∀ j, j < te.sz → ∃ u, olds[i * te.sz + j]? = some u ∧ rel ι (c0 i j) u)
    {A : Option Addr} {n kc : Nat} {news : List Value} (hs : Src ι w te.sz A n news c) (hlk : len ≤ k) (hk : k < len + n ∨ k = 0) (hbytes : (len + n) * te.bytes ≤ 140737488355328) (ty : TypeId) :
    ∃ v, Post ι bs f f' w ((do pure (.value (← Builtin.append_ #[t, t] ty #[.slice base len k, .slice A n kc])) : Sem Next).run P w) v
      [(f, .arr true te.t te.sz (len + n) (appF len c0 c))] ∧ v = .sl f te.sz 0 (len + n) none := by
  refine ⟨_, ?_, rfl⟩
  obtain ⟨i, u, z, hi, hu, hz, e1, e2, e3, _⟩ := tk_info hte
  have hle : len + n ≤ 140737488355328 := Nat.le_trans (Nat.le_mul_of_pos_right _ hby) hbytes
  rcases Nat.eq_zero_or_pos n with hn0 | hn0
  · -- nothing is appended to nothing
    subst hn0
    have hk0 : k = 0 := by omega
    subst hk0
    have hl0 : len = 0 := by omega
    subst hl0
    have hrun : ((do pure (.value (← Builtin.append_ #[t, t] ty #[.slice base 0 0, .slice A 0 kc])) : Sem Next).run P w) = .ok (.value (.slice base 0 0)) w := by
      cases A <;> cases base <;> simp [Builtin.append_, run_underlying ht, sizeOf, typeInfo, hi, Builtin.lenOf, Builtin.firstCells, loadCells, loadCellsFrom, storeCells]
    refine ⟨_, w, ι, .inl hrun, ?_, ?_⟩
    · simp only [rel]; exact ⟨base, 0, rfl, Nat.le_refl _, (fun m h => by cases h), (fun h => absurd h (by omega))⟩
    · have hsl : ∀ b, f ≤ b → b < f' → ι b = none := fun b h1 h2 => (hf b h1 h2).1
      exact {
        ext := fun _ _ => rfl
        br := by
          rintro b' ⟨k', hk'⟩
          simp only [List.mem_singleton, Prod.mk.injEq] at hk'
          obtain ⟨rfl, rfl⟩ := hk'
          rw [updL_cons_same]
          exact .inl ⟨rfl, hsl _ (Nat.le_refl _) (by omega)⟩
        os := rfl
        tape := rfl
        output := rfl
        size := Nat.le_refl _
        keep := fun _ _ _ => rfl
        lt := fun b' l' q1 q2 q3 => by rw [hsl b' q1 q2] at q3; cases q3
        fresh := fun b' l' q1 q2 _ q3 => by rw [hsl b' q1 q2] at q3; cases q3
        one := fun b' b2 l' l2 q1 q2 _ _ _ _ _ q3 => by rw [hsl b' q1 q2] at q3; cases q3
        rwn := by
          intro b' k' hk' _
          simp only [List.mem_singleton, Prod.mk.injEq] at hk'
          rw [hk'.2]; rfl
        upr := by
          intro b' k' hk'
          simp only [List.mem_singleton, Prod.mk.injEq] at hk'
          exact .inl (by omega) }
  · obtain ⟨ad, rfl⟩ := hs.at_ hn0
    have hkl : k < len + n := by omega
    have hge := grownCap_ge w (len + n) k te.t
    have hmx : len + n ≤ maxLen := by simp only [maxLen]; omega
    have hcm := grownCap_le_maxLen w (len + n) k te.t hmx
    have hnews : ∀ j u, news[j]? = some u → w.cell? (ad.add j) = some u := hs.cell ad rfl
    have hrun : ((do pure (.value (← Builtin.append_ #[t, t] ty #[.slice base len k, .slice (some ad) n kc])) : Sem Next).run P w) =
        .ok (.value (.slice (some ⟨w.heap.size, 0, none⟩) (len + n) (grownCap w (len + n) k te.t)))
          (w.drew.alloc (.cells (olds.toArray ++ news.toArray ++ Builtin.zeroCells z.cells (grownCap w (len + n) k te.t - (len + n))) te.t)) := by
      cases base with
      | some a0 =>
        have := run_append_grow (P := P) w t ty te.t i z ht hi hz a0 len k olds (by rw [hlo, e1]) (hoc a0 rfl) ad n kc news (by rw [hs.len, e1]) hnews hkl (by simp only [maxLen] at hmx; omega) (growslice_fits hkl (by rw [← e2]; exact hbytes))
        simp only [Sem.run_bind, this, Result.andThen_ok, Sem.run_pure]
      | none =>
        have hl0 : len = 0 := by
          rcases Nat.eq_zero_or_pos len with h | h
          · exact h
          · obtain ⟨ad, h⟩ := hob h; cases h
        subst hl0
        have ho0 : olds = [] := List.eq_nil_of_length_eq_zero (by simpa using hlo)
        subst ho0
        have hk' : ¬ (n ≤ k) := by omega
        have h63' : ¬ (9223372036854775807 < (n : Int)) := by simp only [maxLen] at hmx; omega
        have hfit := growslice_fits (need := 0 + n) (old := k) (bytes := i.bytes) hkl (by rw [← e2]; exact hbytes)
        simp only [Nat.zero_add] at hfit
        have h48' : ¬ (281474976710656 < Builtin.nextslicecap n k * i.bytes) := by omega
        have hf' := run_firstCells_some (P := P) w.drew i.size n ad n kc news (by rw [hs.len, e1]) (by simpa using hnews)
        simp [Builtin.append_, run_underlying ht, sizeOf, typeInfo, zeroValue, hi, hz, Builtin.lenOf, hk', h63', h48', Question.forced, run_firstCells_none, hf', newRow, grownCap]
    have hzc : z.cells.size = te.zero.length := by rw [e3]; simp
    refine new_blk (w := w) (w1 := w.drew) hf hff _ te.t (grownCap w (len + n) k te.t) _ rfl ?_ ?_ ⟨rfl, rfl, rfl, rfl⟩ hrun
    · intro ι' w' hι hext hw'
      exact br_app (olds := olds) (news := news) (rest := (Builtin.zeroCells z.cells (grownCap w (len + n) k te.t - (len + n))).toList) hι hw' hge hcm
        (by simp only [Array.size_append, List.size_toArray, size_zeroCells, hlo, hs.len, hzc, hzz]; rw [← Nat.add_mul, ← Nat.add_mul]; congr 1; omega)
          (by simp) hlo hs.len ho hs.one (fun i hi j hj => by obtain ⟨u, q1, q2⟩ := hro i hi j hj; exact ⟨u, q1, rel_ext hext _ _ q2⟩)
          (fun i hi j hj => by obtain ⟨u, q1, q2⟩ := hs.rel i hi j hj; exact ⟨u, q1, rel_ext hext _ _ q2⟩)
    · intro ι' hι hext
      simp only [rel]
      exact ⟨_, _, rfl, hge, (fun m h => by cases h), (fun _ => ⟨_, hι, by simp, fun _ => by simp⟩)⟩

end
end Go.Vx

/- Lemmas of a small executor for the model, and contracts of functions, used for the law that this claim proves. No condition. -/
import Derived.Test.YtpohlkhnilcfnaaDVx3
set_option linter.unusedSimpArgs false
set_option linter.unusedVariables false
namespace Go.Vx
variable {P : Program}

section
variable {ι : Lay} {bs : Nat → Blk} {f f' : Nat} {w : World}

theorem op_load {T : Tab} (hT : TabOK P T) {t : TypeId} {d : TyD} (ht : T.get t = some d) {b e i j : Nat} {p : List Prop} {cs : List AV} (hf : ∀ b, f ≤ b → b < f' → ι b = none ∧ bs b = .gone)
    (hb : BR ι w b (bs b)) (hr : readCells (bs b) e i j d.sz = some (p, cs)) (hp : holdsL p) (hs : d.k.agg = true ∨ d.sz = 1) {c : Value} (hc : rel ι (.ptr b e i j) c) :
    Post ι bs f f' w ((do pure (.value (← Instr.loadAt t c)) : Sem Next).run P w) (mkAgg d.k.agg cs) [] := by
  obtain ⟨l, us, h1, h2, h3, h4⟩ := read_ok hb hr hp
  simp only [rel] at hc
  obtain ⟨l', hl', rfl⟩ := hc
  rw [h1] at hl'; cases hl'
  have htk := Tab.get_ok hT ht
  have hrun := run_loadCells_list (P := P) w (⟨l.g, l.o + (i * e + j), none⟩ : Addr) us (fun m u hu => (h3 m u hu).1)
  rw [h2] at hrun
  cases ha : d.k.agg with
  | true =>
    refine Post.pure hf (c := .agg us.toArray) ?_ ?_
    · simp [Instr.loadAt, Instr.sureAddr, loadVar, tk_agg htk, tk_size htk, ha, hrun]
    · simp only [mkAgg, rel]
      exact ⟨us, rfl, h4, fun u hu => by obtain ⟨m, hm⟩ := List.mem_iff_getElem?.1 hu; exact (h3 m u hm).2⟩
  | false =>
    have h1z : d.sz = 1 := by simpa [ha] using hs
    match us, h2.trans h1z with
    | [u], _ =>
      refine Post.pure hf (c := u) ?_ ?_
      · have hcell := (h3 0 u rfl).1
        rw [Addr.add_zero'] at hcell
        simp [Instr.loadAt, Instr.sureAddr, loadVar, tk_agg htk, ha, hcell]
      · match cs, relL_length _ _ h4 with
        | [v], _ => exact (relL_cons.1 h4).1

theorem setCells_length : ∀ (vs cs : List AV) (j : Nat), (setCells cs j vs).length = cs.length
  | [], cs, j => rfl
  | v :: r, cs, j => by simp [setCells, setCells_length r]
theorem setCells_get : ∀ (vs cs : List AV) (j m : Nat), j + vs.length ≤ cs.length → (setCells cs j vs)[m]? = if j ≤ m ∧ m < j + vs.length then vs[m - j]? else cs[m]?
  | [], cs, j, m, h => by
    simp only [setCells, List.length_nil]
    rw [if_neg (by omega)]
  | v :: r, cs, j, m, h => by
    simp only [setCells, List.length_cons] at h ⊢
    rw [setCells_get r (cs.set j v) (j + 1) m (by simp; omega)]
    by_cases h1 : j + 1 ≤ m ∧ m < j + 1 + r.length
    · rw [if_pos h1, if_pos (by omega)]
      obtain ⟨k, rfl⟩ : ∃ k, m = j + 1 + k := ⟨m - (j + 1), by omega⟩
      rw [show j + 1 + k - (j + 1) = k from by omega, show j + 1 + k - j = k + 1 from by omega]
      rfl
    · rw [if_neg h1]
      by_cases h2 : m = j
      · subst h2
        rw [if_pos (by omega), List.getElem?_set_self (by omega)]
        simp
      · rw [if_neg (by omega), List.getElem?_set_ne (by omega)]

theorem write_rw {k k' : Blk} {e i j : Nat} {vs : List AV} {p : List Prop} (h : writeCells k e i j vs = some (p, k')) : k'.rw = true := by
  cases k with
  | gone => simp [writeCells] at h
  | map ka ks c => simp [writeCells] at h
  | var cs =>
    simp only [writeCells] at h
    obtain ⟨_, h⟩ := bif_some h
    simp only [Prod.mk.injEq] at h
    rw [← h.2]; rfl
  | arr rw t e' n c =>
    simp only [writeCells] at h
    obtain ⟨hh, h⟩ := bif_some h
    simp only [Prod.mk.injEq] at h
    simp only [Bool.and_eq_true] at hh
    rw [← h.2]; exact hh.1.2

theorem op_store {T : Tab} (hT : TabOK P T) {t : TypeId} {d : TyD} (ht : T.get t = some d) {b e i j : Nat} {p : List Prop} {k : Blk} {v : AV} (hf : ∀ b, f ≤ b → b < f' → ι b = none ∧ bs b = .gone)
    (hb : BR ι w b (bs b)) (hlt : ∀ l, ι b = some l → l.g < w.heap.size) (hr : writeCells (bs b) e i j v.cells = some (p, k)) (hp : holdsL p) (hs : v.cells.length = d.sz) (h1 : allOne v.cells = true)
    {c u : Value} (hc : rel ι (.ptr b e i j) c) (hu : rel ι v u) :
    Post ι bs f f' w ((do Instr.storeAt t c u; pure .skip : Sem Next).run P w) .dead [(b, k)] := by
  have htk := Tab.get_ok hT ht
  obtain ⟨hcr, hone⟩ := cells_rel hu h1
  have hlen := relL_length _ _ hcr
  simp only [rel] at hc
  obtain ⟨l, hl, rfl⟩ := hc
  have hbf : b < f ∨ f' ≤ b := by
    rcases Nat.lt_or_ge b f with h | h
    · exact .inl h
    · rcases Nat.lt_or_ge b (f') with h' | h'
      · have := (hf b h h').1; rw [this] at hl; cases hl
      · exact .inr h'
  have hbrw : (bs b).rw = true := by
    cases hbb : bs b with
    | gone => simp [hbb, writeCells] at hr
    | map ka ks c => simp [hbb, writeCells] at hr
    | var cs => rfl
    | arr rw t e' n c =>
      simp only [hbb, writeCells] at hr
      obtain ⟨h, _⟩ := bif_some hr
      simp only [Bool.and_eq_true] at h; exact h.1.2
  -- the block in the world, and where in it the cells are written
  obtain ⟨C, t', o, hg, hol, hfit, hnew⟩ : ∃ (C : Array Value) (t' : TypeId) (o : Nat), w.heap[l.g]? = some (.cells C t' (0, 0)) ∧ l.o + (i * e + j) = o ∧ o + u.cells.toList.length ≤ C.size ∧
      ∀ w', w'.heap[l.g]? = some (.cells (C.toList.take o ++ u.cells.toList ++ C.toList.drop (o + u.cells.toList.length)).toArray t' (0, 0)) → BR ι w' b k := by
    have hnth : ∀ (C : Array Value) (o m : Nat), o + u.cells.toList.length ≤ C.size →
        (C.toList.take o ++ u.cells.toList ++ C.toList.drop (o + u.cells.toList.length)).toArray[m]? = if o ≤ m ∧ m < o + u.cells.toList.length then u.cells.toList[m - o]? else C[m]? := by
      intro C o m h
      rw [List.getElem?_toArray]
      have hto : (C.toList.take o).length = o := by rw [List.length_take, Array.length_toList]; omega
      by_cases h1 : m < o
      · rw [if_neg (by omega), List.getElem?_append_left (by rw [List.length_append, hto]; omega), List.getElem?_append_left (by omega), List.getElem?_take_of_lt h1]
        simp
      · by_cases h2 : m < o + u.cells.toList.length
        · rw [if_pos ⟨by omega, h2⟩, List.getElem?_append_left (by rw [List.length_append, hto]; omega), List.getElem?_append_right (by omega), hto]
        · rw [if_neg (by omega), List.getElem?_append_right (by rw [List.length_append, hto]; omega), List.getElem?_drop, List.length_append, hto]
          rw [show o + u.cells.toList.length + (m - (o + u.cells.toList.length)) = m from by omega]
          simp
    cases hbb : bs b with
    | gone => simp [hbb, writeCells] at hr
    | map ka ks c => simp [hbb, writeCells] at hr
    | var vs =>
      simp only [hbb, writeCells] at hr
      obtain ⟨hq, hr⟩ := bif_some hr
      simp only [Prod.mk.injEq] at hr
      obtain ⟨_, rfl⟩ := hr
      simp only [Bool.and_eq_true] at hq
      have h0 := Nat.eq_of_beq_eq_true hq.1
      have hle := Nat.le_of_ble_eq_true hq.2
      subst h0
      rw [hbb] at hb
      obtain ⟨l', C, t', h2, h3, h4, h5⟩ := hb
      rw [hl] at h2; cases h2
      have hsz : vs.length ≤ C.size := by
        rcases Nat.eq_zero_or_pos vs.length with h | h
        · omega
        · obtain ⟨c, q, _⟩ := h5 (vs.length - 1) vs[vs.length - 1] (List.getElem?_eq_getElem (by omega))
          have := (Array.getElem?_eq_some_iff.1 q).1
          omega
      refine ⟨C, t', j, h4, by omega, by omega, fun w' hw' => ⟨l, _, t', hl, h3, hw', fun m v' hv' => ?_⟩⟩
      rw [setCells_get _ _ _ _ hle] at hv'
      rw [hnth C j m (by omega)]
      by_cases hm : j ≤ m ∧ m < j + v.cells.length
      · rw [if_pos hm] at hv'
        rw [if_pos (by omega)]
        obtain ⟨c, q1, q2⟩ := relL_get _ _ hcr _ _ hv'
        exact ⟨c, q1, hone c (List.mem_of_getElem? q1), q2⟩
      · rw [if_neg hm] at hv'
        rw [if_neg (by omega)]
        exact h5 m v' hv'
    | arr rw t0 e' n F =>
      simp only [hbb, writeCells] at hr
      have hq := bif_some hr
      clear hr
      obtain ⟨h, hr⟩ := hq
      · simp only [Prod.mk.injEq] at hr
        simp only [Bool.and_eq_true] at h
        have he := Nat.eq_of_beq_eq_true h.1.1
        have hj := Nat.le_of_ble_eq_true h.2
        have h := h.1
        subst he
        obtain ⟨rfl, rfl⟩ := hr
        obtain ⟨hi, _⟩ := hp
        rw [hbb] at hb
        rcases hb with ⟨h0, _⟩ | ⟨l', h2, h3, h4, h5⟩
        · omega
        · rw [hl] at h2; cases h2
          obtain ⟨ho, hmx, C, hC, hCs⟩ := h5 h.2
          have hmul : (i + 1) * e' ≤ l.n * e' := Nat.mul_le_mul_right _ (by omega)
          have hfit : i * e' + j + u.cells.toList.length ≤ C.size := by rw [hCs]; rw [Nat.add_mul] at hmul; omega
          refine ⟨C, t0, i * e' + j, hC, by omega, hfit, fun w' hw' => .inr ⟨l, hl, h3, fun i' hi' j' hj' => ?_, fun _ => ⟨ho, hmx, _, hw', ?_⟩⟩⟩
          · obtain ⟨cv, q1, q2, q3⟩ := h4 i' hi' j' hj'
            rw [cell_of_row w l.g _ C t0 (0, 0) hC] at q1
            rw [cell_of_row w' l.g _ _ t0 (0, 0) hw', hnth C _ _ hfit]
            by_cases hcase : i' = i ∧ j ≤ j' ∧ j' < j + v.cells.length
            · obtain ⟨rfl, hj1, hj2⟩ := hcase
              rw [if_pos (by omega)]
              have hx : v.cells[j' - j]? = some (v.cells.getD (j' - j) .dead) := by
                rw [List.getD_eq_getElem?_getD, List.getElem?_eq_getElem (by omega)]; rfl
              obtain ⟨c, q4, q5⟩ := relL_get _ _ hcr _ _ hx
              refine ⟨c, by rw [← q4]; congr 1; omega, hone c (List.mem_of_getElem? q4), ?_⟩
              simp only [Nat.beq_refl, Bool.true_and]
              rw [show (Nat.ble j j' && Nat.blt j' (j + v.cells.length)) = true from by simp [Nat.blt, hj1]; omega]
              exact q5
            · have hno : ¬ (i * e' + j ≤ l.o + (i' * e' + j') ∧ l.o + (i' * e' + j') < i * e' + j + u.cells.toList.length) := by
                rintro ⟨ha, hb⟩
                rw [ho] at ha hb
                apply hcase
                have hii : i' = i := by
                  rcases Nat.lt_trichotomy i' i with hx | hx | hx
                  · have : (i' + 1) * e' ≤ i * e' := Nat.mul_le_mul_right _ hx
                    rw [Nat.add_mul] at this; omega
                  · exact hx
                  · have : (i + 1) * e' ≤ i' * e' := Nat.mul_le_mul_right _ hx
                    rw [Nat.add_mul] at this; omega
                subst hii
                omega
              rw [if_neg hno]
              refine ⟨cv, q1, q2, ?_⟩
              have hb : (Nat.beq i' i && (Nat.ble j j' && Nat.blt j' (j + v.cells.length))) = false := by
                rw [Bool.eq_false_iff]
                intro hh
                simp only [Bool.and_eq_true, Nat.blt, Nat.ble_eq] at hh
                exact hcase ⟨Nat.eq_of_beq_eq_true hh.1, hh.2.1, by omega⟩
              simp only [hb, cond_false]
              exact q3
          · simp only [List.size_toArray, List.length_append, List.length_take, List.length_drop, Array.length_toList] at hfit ⊢
            omega
  have hst := run_storeCells_at P l.g o t' u.cells.toList 0 C w hg (by simpa using hfit) hone
  simp only [Nat.add_zero] at hst
  have hsize : u.cells.size = d.sz := by rw [← hs, hlen]; simp
  have hrun : ((do Instr.storeAt t (.pointer (some ⟨l.g, l.o + (i * e + j), none⟩)) u; pure .skip : Sem Next).run P w) =
      .ok .skip (w.setRow l.g (C.toList.take o ++ u.cells.toList ++ C.toList.drop (o + u.cells.toList.length)).toArray) := by
    simp only [Instr.storeAt, Instr.sureAddr, storeVar, Sem.run_bind, Sem.run_pure, Result.andThen_ok, tk_size htk]
    rw [if_neg (by simp [hsize])]
    simp only [hol, hst, Result.andThen_ok]
  refine ⟨undef, _, ι, .inr ⟨hrun, rfl⟩, by simp [rel], ?_⟩
  · have hsl : ∀ b, f ≤ b → b < f' → ι b = none := fun b h1 h2 => (hf b h1 h2).1
    exact {
      ext := fun _ _ => rfl
      br := by
        rintro b' ⟨k', hk'⟩
        simp only [List.mem_singleton, Prod.mk.injEq] at hk'
        obtain ⟨rfl, rfl⟩ := hk'
        rw [updL_cons_same]
        exact hnew _ (setRow_heap w l.g C _ t' (0, 0) hg)
      os := rfl
      tape := rfl
      output := rfl
      size := by simp [World.setRow]
      keep := fun g _ hk => setRow_other w l.g g _ (fun e => hk b k l (by simp) hbrw hl e.symm)
      lt := fun b' l' q1 q2 q3 => by rw [hsl b' q1 q2] at q3; cases q3
      fresh := fun b' l' q1 q2 _ q3 => by rw [hsl b' q1 q2] at q3; cases q3
      one := fun b' b2 l' l2 q1 q2 _ _ _ _ _ q3 => by rw [hsl b' q1 q2] at q3; cases q3
      rwn := by
        intro b' k' hk' _
        simp only [List.mem_singleton, Prod.mk.injEq] at hk'
        rw [hk'.2]
        exact write_rw hr
      upr := by
        intro b' k' hk'
        simp only [List.mem_singleton, Prod.mk.injEq] at hk'
        obtain ⟨rfl, rfl⟩ := hk'
        exact .inr hbrw }

/-- A new block of cells. -/
theorem new_blk (hf : ∀ b, f ≤ b → b < f' → ι b = none ∧ bs b = .gone) (hff : f < f') (C : Array Value) (t : TypeId) (n : Nat) (k : Blk) (hkr : k.rw = true)
    (hbr : ∀ ι' w', ι' f = some ⟨w.heap.size, 0, n⟩ → Ext ι ι' → w'.heap[w.heap.size]? = some (.cells C t (0, 0)) → BR ι' w' f k) {v : AV} {c : Value}
    (hv : ∀ ι', ι' f = some ⟨w.heap.size, 0, n⟩ → Ext ι ι' → rel ι' v c) {r : Result Next} {w1 : World} (hw1 : w1.heap = w.heap ∧ w1.os = w.os ∧ w1.tape = w.tape ∧ w1.output = w.output) (hr : r = .ok (.value c) (w1.alloc (.cells C t))) :
    Post ι bs f f' w r v [(f, k)] := by
  let ι' : Lay := fun x => if x = f then some ⟨w.heap.size, 0, n⟩ else ι x
  have hself : ι' f = some ⟨w.heap.size, 0, n⟩ := by simp [ι']
  have hoth : ∀ x, x ≠ f → ι' x = ι x := fun x hx => by simp [ι', hx]
  have hext : Ext ι ι' := fun b l hl => by
    by_cases hb : b = f
    · subst hb; have := (hf b (by omega) (by omega)).1; rw [this] at hl; cases hl
    · rw [hoth b hb]; exact hl
  have hnew : (w1.alloc (.cells C t)).heap[w.heap.size]? = some (Obj.cells C t (0, 0)) := by rw [← hw1.1]; exact heap_alloc_new w1 _
  have hsize : (w1.alloc (.cells C t)).heap.size = w.heap.size + 1 := by rw [← hw1.1]; simp
  refine ⟨c, _, ι', .inl hr, hv ι' hself hext, ?_⟩
  exact {
    ext := fun b hb => hoth b (by omega)
    br := by
      rintro b' ⟨k', hk'⟩
      simp only [List.mem_singleton, Prod.mk.injEq] at hk'
      obtain ⟨rfl, rfl⟩ := hk'
      rw [updL_cons_same]
      exact hbr ι' _ hself hext hnew
    os := hw1.2.1
    tape := hw1.2.2.1
    output := hw1.2.2.2
    size := by rw [hsize]; omega
    keep := fun g hg _ => by
      have := RowKit.Below.heap_alloc w1 (.cells C t) g (by rw [hw1.1]; exact hg)
      rw [this, hw1.1]
    lt := fun b l h1 h2 h3 => by
      by_cases hb : b = f
      · subst hb; rw [hself] at h3; cases h3; rw [hsize]; exact Nat.lt_succ_self _
      · rw [hoth b hb, (hf b h1 h2).1] at h3; cases h3
    fresh := fun b l h1 h2 _ h3 => by
      by_cases hb : b = f
      · subst hb; rw [hself] at h3; cases h3; exact .inl (Nat.le_refl _)
      · rw [hoth b hb, (hf b h1 h2).1] at h3; cases h3
    rwn := by
      intro b' k' hk' _
      simp only [List.mem_singleton, Prod.mk.injEq] at hk'
      rw [hk'.2]; exact hkr
    one := fun b b' l l' h1 h2 h3 h4 hne _ _ h5 h6 => by
      by_cases hb : b = f
      · rw [hoth b' (by omega), (hf b' h3 h4).1] at h6; cases h6
      · rw [hoth b hb, (hf b h1 h2).1] at h5; cases h5
    upr := by
      intro b' k' hk'
      simp only [List.mem_singleton, Prod.mk.injEq] at hk'
      exact .inl (by omega) }

end
end Go.Vx

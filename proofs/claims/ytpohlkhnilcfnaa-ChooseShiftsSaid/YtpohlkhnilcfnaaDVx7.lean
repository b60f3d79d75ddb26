/- Lemmas of a small executor for the model, and contracts of functions, used for the law that this claim proves. No condition. -/
import Derived.Test.YtpohlkhnilcfnaaDVx6
import Derived.Laws.MakeOwn
set_option linter.unusedSimpArgs false
set_option linter.unusedVariables false
namespace Go.Vx
variable {P : Program}

/-- Cells written into an array from 'off' on. -/
theorem foldl_set (off : Nat) : ∀ (l : List Value) (k : Nat) (C : Array Value), off + k + l.length ≤ C.size →
    ((l.zipIdx k).foldl (fun cs (x : Value × Nat) => cs.setIfInBounds (off + x.2) x.1) C).size = C.size ∧
    ∀ m, ((l.zipIdx k).foldl (fun cs (x : Value × Nat) => cs.setIfInBounds (off + x.2) x.1) C)[m]? = if off + k ≤ m ∧ m < off + k + l.length then l[m - (off + k)]? else C[m]?
  | [], k, C, _ => by
    simp only [List.zipIdx_nil, List.foldl_nil, List.length_nil, true_and]
    intro m
    rw [if_neg (by omega)]
  | v :: r, k, C, h => by
    simp only [List.length_cons] at h
    simp only [List.zipIdx_cons, List.foldl_cons, List.length_cons]
    obtain ⟨h1, h2⟩ := foldl_set off r (k + 1) (C.setIfInBounds (off + k) v) (by simp; omega)
    refine ⟨by rw [h1]; simp, fun m => ?_⟩
    rw [h2 m]
    by_cases ha : off + (k + 1) ≤ m ∧ m < off + (k + 1) + r.length
    · rw [if_pos ha, if_pos (by omega)]
      rw [show m - (off + k) = m - (off + (k + 1)) + 1 from by omega]
      rfl
    · rw [if_neg ha]
      by_cases hb : m = off + k
      · subst hb
        rw [if_pos (by omega), Array.getElem?_setIfInBounds_self_of_lt (by omega)]
        simp
      · rw [if_neg (by omega), Array.getElem?_setIfInBounds_ne (by omega)]

/-- The cells of a literal. -/
def CellsRel (ι : Lay) (cs : List AV) (C : Array Value) : Prop := cs.length = C.size ∧ ∀ (j : Nat) (v : AV), cs[j]? = some v → ∃ c, C[j]? = some c ∧ c.oneCell' = true ∧ rel ι v c

theorem CellsRel.relL {ι : Lay} {cs : List AV} {C : Array Value} (h : CellsRel ι cs C) : Vx.relL ι cs C.toList ∧ ∀ u ∈ C.toList, u.oneCell' = true := by
  refine ⟨relL_of_get _ _ (by simpa using h.1) fun i v c h1 h2 => ?_, fun u hu => ?_⟩
  · obtain ⟨c', q1, _, q3⟩ := h.2 i v h1
    rw [Array.getElem?_toList] at h2
    rw [q1] at h2; cases h2; exact q3
  · obtain ⟨m, hm⟩ := List.mem_iff_getElem?.1 hu
    have hl : m < cs.length := by have := (List.getElem?_eq_some_iff.1 hm).1; rw [h.1]; simpa using this
    obtain ⟨c, q1, q2, _⟩ := h.2 m _ (List.getElem?_eq_getElem hl)
    rw [Array.getElem?_toList, q1] at hm
    cases hm; exact q2

theorem CellsRel.vals (ι : Lay) (z : List Value) (h : allOne (z.map .val) = true) : CellsRel ι (z.map .val) z.toArray := by
  refine ⟨by simp, fun j v hj => ?_⟩
  rw [List.getElem?_map] at hj
  cases hz : z[j]? with
  | none => simp [hz] at hj
  | some c =>
    simp only [hz, Option.map_some, Option.some.injEq] at hj
    subst hj
    refine ⟨c, by simp [hz], ?_, by simp [rel]⟩
    have : ∀ (l : List AV), allOne l = true → ∀ v ∈ l, v.one = true := by
      intro l
      induction l with
      | nil => intro _ v hv; cases hv
      | cons a r ih => intro hl v hv; simp only [allOne, Bool.and_eq_true] at hl; simp only [List.mem_cons] at hv; rcases hv with rfl | hv; exact hl.1; exact ih hl.2 v hv
    have h1 := this _ h (.val c) (List.mem_map.2 ⟨c, List.mem_of_getElem? hz, rfl⟩)
    cases c <;> simp_all [AV.one, Value.oneCell']

theorem fill_ok {ι : Lay} (place : Nat → Option (Nat × Nat)) : ∀ (ps : List (Nat × AV)) (qs : List (Nat × Value)) (cs : List AV) (C : Array Value) (cs' : List AV), CellsRel ι cs C →
    ps.length = qs.length → (∀ (i : Nat) p q, ps[i]? = some p → qs[i]? = some q → p.1 = q.1 ∧ rel ι p.2 q.2) → fillAV place cs ps = some cs' → ∃ C', Instr.fill place C qs = some C' ∧ CellsRel ι cs' C' ∧ C'.size = C.size
  | [], [], cs, C, cs', h, _, _, hf => by
    simp only [fillAV, Option.some.injEq] at hf; subst hf
    exact ⟨C, rfl, h, rfl⟩
  | [], _ :: _, cs, C, cs', _, hl, _, _ => by simp at hl
  | _ :: _, [], cs, C, cs', _, hl, _, _ => by simp at hl
  | (i, v) :: ps, (i', c) :: qs, cs, C, cs', h, hl, hr, hf => by
    obtain ⟨e, hv⟩ := hr 0 _ _ rfl rfl
    simp only at e hv
    subst e
    simp only [fillAV] at hf
    cases hp : place i with
    | none => simp [hp] at hf
    | some os =>
      obtain ⟨off, size⟩ := os
      simp only [hp] at hf
      cases hb : Nat.beq v.cells.length size && Nat.ble (off + v.cells.length) cs.length && allOne v.cells with
      | false => simp [hb] at hf
      | true =>
        simp only [hb, cond_true] at hf
        simp only [Bool.and_eq_true] at hb
        have h1 := Nat.eq_of_beq_eq_true hb.1.1
        have h2 := Nat.le_of_ble_eq_true hb.1.2
        obtain ⟨hcr, hone⟩ := cells_rel hv hb.2
        have hlen := relL_length _ _ hcr
        have hcsz : c.cells.size = v.cells.length := by rw [hlen]; simp
        have hfit : off + 0 + c.cells.toList.length ≤ C.size := by rw [← h.1]; simp; omega
        obtain ⟨g1, g2⟩ := foldl_set off c.cells.toList 0 C hfit
        have harr : (c.cells.zipIdx.foldl (fun cs (x : Value × Nat) => cs.setIfInBounds (off + x.2) x.1) C) = ((c.cells.toList.zipIdx 0).foldl (fun cs (x : Value × Nat) => cs.setIfInBounds (off + x.2) x.1) C) := by
          rw [← Array.foldl_toList, Array.toList_zipIdx]
        obtain ⟨C', q1, q2, q3⟩ := fill_ok place ps qs (setCells cs off v.cells) ((c.cells.toList.zipIdx 0).foldl (fun cs (x : Value × Nat) => cs.setIfInBounds (off + x.2) x.1) C) cs'
          ⟨by rw [setCells_length, g1]; exact h.1, fun j u hj => by
            rw [setCells_get _ _ _ _ h2] at hj
            rw [g2 j]
            simp only [Nat.add_zero]
            by_cases hc : off ≤ j ∧ j < off + v.cells.length
            · rw [if_pos hc] at hj
              rw [if_pos (by omega)]
              obtain ⟨cc, s1, s2⟩ := relL_get _ _ hcr _ _ hj
              exact ⟨cc, s1, hone cc (List.mem_of_getElem? s1), s2⟩
            · rw [if_neg hc] at hj
              rw [if_neg (by omega)]
              exact h.2 j u hj⟩ (by simpa using hl) (fun k p q hp hq => hr (k + 1) p q (by simpa using hp) (by simpa using hq)) hf
        refine ⟨C', ?_, q2, by rw [q3, g1]⟩
        simp only [Instr.fill, hp]
        rw [if_neg (by rw [← h.1]; simp; omega), harr]
        exact q1

theorem mapM_run {α β : Type} (w : World) (g : α → Sem β) (h : α → β) : ∀ (l : List α), (∀ x ∈ l, (g x).run P w = .ok (h x) w) → (l.mapM g).run P w = .ok (l.map h) w
  | [], _ => rfl
  | x :: r, hh => by
    rw [List.mapM_cons]
    simp only [Sem.run_bind, hh x (by simp), Result.andThen_ok, mapM_run w g h r (fun y hy => hh y (by simp [hy])), Sem.run_pure, List.map_cons]

theorem repCells_length (z : List Value) : ∀ n, (repCells z n).length = n * z.length
  | 0 => by simp [repCells]
  | n + 1 => by simp only [repCells, List.length_append, List.length_map, repCells_length z n, Nat.add_mul]; omega

theorem repCells_get (z : List Value) (hz : 0 < z.length) : ∀ (n j : Nat), j < n * z.length → (repCells z n)[j]? = some (.val (z.getD (j % z.length) undef))
  | 0, j, h => by simp at h
  | n + 1, j, h => by
    simp only [repCells]
    by_cases hj : j < z.length
    · rw [List.getElem?_append_left (by simpa using hj), List.getElem?_map, List.getElem?_eq_getElem hj, Nat.mod_eq_of_lt hj, List.getD_eq_getElem?_getD, List.getElem?_eq_getElem hj]
      rfl
    · have hm : j % z.length = (j - z.length) % z.length := Nat.mod_eq_sub_mod (by omega)
      rw [List.getElem?_append_right (by simp; omega), List.length_map, repCells_get z hz n (j - z.length) (by rw [Nat.add_mul] at h; omega), hm]

theorem one_of_vals {z : List Value} (h : allOne (z.map .val) = true) : ∀ u ∈ z, u.oneCell' = true := by
  intro u hu
  obtain ⟨m, hm⟩ := List.mem_iff_getElem?.1 hu
  obtain ⟨c, q1, q2, q3⟩ := (CellsRel.vals (fun _ => none) z h).2 m (.val u) (by simp [hm])
  simp only [rel] at q3
  rw [← q3]; exact q2

section
variable {ι : Lay} {bs : Nat → Blk} {f f' : Nat} {w : World}

theorem parts_rel {ρ : Operand → AV} {ca : Operand → Value} (hρ : ∀ x, rel ι (ρ x) (ca x)) (parts : Array (Nat × Operand)) :
    let ps := parts.toList.map fun x => (x.1, ρ x.2)
    let qs := (parts.map fun (i, x) => (i, ca x)).toList
    ps.length = qs.length ∧ ∀ (i : Nat) p q, ps[i]? = some p → qs[i]? = some q → p.1 = q.1 ∧ rel ι p.2 q.2 := by
  refine ⟨by simp, fun i p q hp hq => ?_⟩
  simp only [Array.toList_map] at hq
  rw [List.getElem?_map] at hp hq
  cases h : parts.toList[i]? with
  | none => simp [h] at hp
  | some x =>
    simp only [h, Option.map_some, Option.some.injEq] at hp hq
    subst hp; subst hq
    exact ⟨rfl, hρ x.2⟩

theorem op_build {T : Tab} (hT : TabOK P T) {ρ : Operand → AV} {ca : Operand → Value} (hρ : ∀ x, rel ι (ρ x) (ca x)) (hf : ∀ b, f ≤ b → b < f' → ι b = none ∧ bs b = .gone)
    (t : TypeId) (parts : Array (Nat × Operand)) {p : List Prop} {v : AV} {up : List (Nat × Blk)} (h : aop T (.build t parts) ρ bs f = some (p, v, up)) :
    Post ι bs f f' w ((do pure (.value (← Instr.build t (parts.map fun (i, x) => (i, ca x)))) : Sem Next).run P w) v up := by
  simp only [aop] at h
  obtain ⟨hl, hr⟩ := parts_rel hρ parts
  have fin : ∀ {place : Nat → Option (Nat × Nat)} {z : Value} {cs : List AV}, fillAV place (z.cells.toList.map .val) (parts.toList.map fun x => (x.1, ρ x.2)) = some cs → allOne (z.cells.toList.map .val) = true →
      ∃ C, Instr.fill place z.cells (parts.map fun (i, x) => (i, ca x)).toList = some C ∧ rel ι (.agg cs) (.agg C) := by
    intro place z cs hfill hz
    obtain ⟨C, q1, q2, _⟩ := fill_ok place _ _ _ _ _ (CellsRel.vals ι z.cells.toList hz) hl hr hfill
    obtain ⟨r1, r2⟩ := q2.relL
    exact ⟨C, by simpa using q1, by simp only [rel]; exact ⟨C.toList, by simp, r1, r2⟩⟩
  split at h
  · rename_i fs z _ _ _ hg
    split at h
    · rename_i cs hfill
      obtain ⟨hp, h⟩ := bif_some h
      simp only [Prod.mk.injEq] at h
      obtain ⟨_, rfl, rfl⟩ := h
      have htk := Tab.get_ok hT hg
      obtain ⟨zv, hz1, hz2⟩ := tk_zero htk w
      obtain ⟨fa, hu, hfs, hfo⟩ := tk_struct htk rfl
      simp only at hz2
      subst hz2
      obtain ⟨C, q1, q2⟩ := fin hfill hp
      have hm : (fa.mapM fun f => do pure (f.offset, ← sizeOf f.type) : Sem (Array (Nat × Nat))).run P w = .ok (fa.map fun f => (f.offset, sizeOfP P f.type)) w := by
        rw [Array.mapM_eq_mapM_toList]
        simp only [Sem.run_map]
        rw [mapM_run w _ (fun f => (f.offset, sizeOfP P f.type)) fa.toList (fun x hx => ?_)]
        · rw [Result.andThen_ok]; congr 1; exact (Array.toArray_toList (xs := fa.map _)).symm ▸ by rw [Array.toList_map]
        · simp only [fieldsOK, List.all_eq_true, Bool.and_eq_true] at hfo
          have := (hfo x hx).1
          cases hi : P.info? x.type with
          | none => simp [hi] at this
          | some i => simp [sizeOf, typeInfo, hi, sizeOfP]
      have hplace : (fun i => ((fa.map fun f => (f.offset, sizeOfP P f.type))[i]? : Option (Nat × Nat))) = (fun (i : Nat) => (fs[i]?).map fun (x : Nat × Nat × Bool) => (x.1, x.2.1)) := by
        funext i
        rw [hfs]
        rw [Array.getElem?_map, List.getElem?_map, Option.map_map, Array.getElem?_toList]
        rfl
      refine Post.pure hf (c := .agg C) ?_ q2
      simp only [Instr.build, Sem.run_bind, hz1, Result.andThen_ok, run_underlying hu, hm]
      rw [hplace, q1]
      rfl
    · cases h
  · rename_i n te z _ _ _ hg
    split at h
    · rename_i de hde
      split at h
      · rename_i cs hfill
        obtain ⟨hp, h⟩ := bif_some h
        simp only [Prod.mk.injEq] at h
        obtain ⟨_, rfl, rfl⟩ := h
        have htk := Tab.get_ok hT hg
        obtain ⟨zv, hz1, hz2⟩ := tk_zero htk w
        simp only at hz2
        subst hz2
        have hu : P.underlying t = some (.array n te) := by
          obtain ⟨i, u, z, _, hu, _, _, _, _, hk', _⟩ := tk_info htk
          simp only at hk'
          cases u <;> simp at hk'
          rw [hk'.1, hk'.2]; exact hu
        obtain ⟨C, q1, q2⟩ := fin hfill hp
        refine Post.pure hf (c := .agg C) ?_ q2
        simp only [Instr.build, Sem.run_bind, hz1, Result.andThen_ok, run_underlying hu, tk_size (Tab.get_ok hT hde)]
        rw [q1]
        rfl
      · cases h
    · cases h
  · cases h

theorem op_buildSlice {T : Tab} (hT : TabOK P T) {ρ : Operand → AV} {ca : Operand → Value} (hρ : ∀ x, rel ι (ρ x) (ca x)) (hf : ∀ b, f ≤ b → b < f' → ι b = none ∧ bs b = .gone) (hff : f < f')
    (t : TypeId) (len : Nat) (parts : Array (Nat × Operand)) {p : List Prop} {v : AV} {up : List (Nat × Blk)} (h : aop T (.buildSlice t len parts) ρ bs f = some (p, v, up)) :
    Post ι bs f f' w ((do pure (.value (← Instr.buildSlice t len (parts.map fun (i, x) => (i, ca x)))) : Sem Next).run P w) v up := by
  simp only [aop] at h
  split at h
  · rename_i te _ _ _ _ hg
    split at h
    · rename_i de hde
      split at h
      · rename_i cs hfill
        obtain ⟨hp, h⟩ := bif_some h
        simp only [Prod.mk.injEq] at h
        obtain ⟨_, rfl, rfl⟩ := h
        simp only [Bool.and_eq_true] at hp
        obtain ⟨⟨⟨hz, hzz⟩, hsz⟩, hlim⟩ := hp
        have hzz := Nat.eq_of_beq_eq_true hzz
        have hsz : 0 < de.sz := Nat.le_of_ble_eq_true hsz
        have hlim := Nat.le_of_ble_eq_true hlim
        have htk := Tab.get_ok hT hg
        have hte := Tab.get_ok hT hde
        obtain ⟨zv, hz1, hz2⟩ := tk_zero hte w
        have hu := tk_slice htk rfl
        have hzs : zv.cells.size = de.sz := by rw [← hzz, hz2]; simp
        have h0 : CellsRel ι (repCells de.zero len) ((Array.range (len * de.sz)).map (zv.cells[· % zv.cells.size]!)) := by
          refine ⟨by rw [repCells_length, hzz]; simp, fun j u hj => ?_⟩
          have hjl : j < len * de.sz := by
            have := (List.getElem?_eq_some_iff.1 hj).1
            rw [repCells_length, hzz] at this; exact this
          rw [repCells_get _ (by omega) _ _ (by rw [hzz]; exact hjl), hzz] at hj
          cases hj
          have hm : j % de.sz < zv.cells.size := by rw [hzs]; exact Nat.mod_lt _ hsz
          have hget : de.zero.getD (j % de.sz) undef = zv.cells[j % de.sz] := by
            rw [hz2, List.getD_eq_getElem?_getD, Array.getElem?_toList, Array.getElem?_eq_getElem hm]; rfl
          refine ⟨zv.cells[j % de.sz], ?_, ?_, by simp only [rel]; exact hget.symm⟩
          · simp [hjl, hzs, getElem!_pos zv.cells (j % de.sz) hm]
          · exact one_of_vals hz _ (by rw [hz2]; simp)
        obtain ⟨hl, hr⟩ := parts_rel hρ parts
        obtain ⟨C, q1, q2, q3⟩ := fill_ok _ _ _ _ _ _ h0 hl hr hfill
        have hCs : C.size = len * de.sz := by rw [q3]; simp
        have hne : ¬ (len * de.sz > 2 ^ 24) := by omega
        have hrun : ((do pure (.value (← Instr.buildSlice t len (parts.map fun (i, x) => (i, ca x)))) : Sem Next).run P w) = .ok (.value (.slice (some ⟨w.heap.size, 0, none⟩) len len)) (w.alloc (.cells C te)) := by
          by_cases hl0 : len * de.sz = 0
          · have h00 : (Array.range (len * de.sz)).map (zv.cells[· % zv.cells.size]!) = #[] := by rw [hl0]; simp
            rw [h00] at q1
            simp only [Instr.buildSlice, Sem.run_bind, run_underlying hu, Result.andThen_ok, tk_size hte, if_neg hne, if_pos hl0, Sem.run_pure]
            rw [show ((Array.range (len * de.sz)).map fun x => (#[] : Array Value)[x % (#[] : Array Value).size]!) = #[] from by rw [hl0]; simp, q1]
            rfl
          · simp only [Instr.buildSlice, Sem.run_bind, run_underlying hu, Result.andThen_ok, tk_size hte, if_neg hne, if_neg hl0, Sem.run_pure, hz1]
            rw [q1]
            rfl
        have hlm : len ≤ maxLen := by
          have : len ≤ len * de.sz := Nat.le_mul_of_pos_right _ hsz
          simp only [maxLen]; omega
        refine new_blk (w := w) (w1 := w) hf hff C te len _ rfl ?_ ?_ ⟨rfl, rfl, rfl, rfl⟩ hrun
        · intro ι' w' hι hext hw'
          refine .inr ⟨_, hι, Nat.le_refl _, fun i hi j hj => ?_, fun _ => ⟨rfl, hlm, C, hw', hCs⟩⟩
          have hq : i * de.sz + j < cs.length := by
            have : (i + 1) * de.sz ≤ len * de.sz := Nat.mul_le_mul_right _ hi
            rw [Nat.add_mul] at this
            rw [q2.1, hCs]; omega
          have hx : cs[i * de.sz + j]? = some (cs.getD (i * de.sz + j) .dead) := by
            rw [List.getD_eq_getElem?_getD, List.getElem?_eq_getElem hq]; rfl
          obtain ⟨c, s1, s2, s3⟩ := q2.2 _ _ hx
          refine ⟨c, ?_, s2, rel_ext hext _ _ s3⟩
          rw [cell_of_row w' _ _ C te (0, 0) hw', Nat.zero_add]; exact s1
        · intro ι' hι hext
          simp only [rel]
          exact ⟨_, _, rfl, Nat.le_refl _, (fun m h => by cases h; rfl), (fun _ => ⟨_, hι, by simp, (fun h => by cases h)⟩)⟩
      · cases h
    · cases h
  · cases h

theorem op_make {T : Tab} (hT : TabOK P T) {t te : TypeId} {d de : TyD} (hd : T.get t = some d) (hk : d.k = .slice te) (hde : T.get te = some de) (hf : ∀ b, f ≤ b → b < f' → ι b = none ∧ bs b = .gone) (hff : f < f')
    (k1 k2 : IntKind) (n m : Int) (h0 : 0 ≤ n) (hnm : n ≤ m) (hby : m * de.bytes ≤ 140737488355328) (hbp : 0 < de.bytes) (hz : allOne (de.zero.map .val) = true) (hzz : de.zero.length = de.sz) :
    Post ι bs f f' w ((do pure (.value (← Instr.makeSlice t (.int k1 n) (.int k2 m))) : Sem Next).run P w) (.sl f de.sz 0 n.toNat none) [(f, .arr true te de.sz n.toNat fun _ j => .val (de.zero.getD j undef))] := by
  have htk := Tab.get_ok hT hd
  have hte := Tab.get_ok hT hde
  have hu := tk_slice htk hk
  obtain ⟨i, u, z, hi, hu2, hz', e1, e2, e3, _⟩ := tk_info hte
  have hbound : m ≤ 140737488355328 := by
    have : m * 1 ≤ m * (de.bytes : Int) := Int.mul_le_mul_of_nonneg_left (by omega) (by omega)
    omega
  have hzs : z.cells.size = de.sz := by rw [← hzz, e3]; simp
  have hrun := run_make (P := P) w t te i z hu hi hz' k1 k2 n m h0 hnm (by rw [← e2, Int.mul_comm]; omega) (by omega)
  have hrun' : ((do pure (.value (← Instr.makeSlice t (.int k1 n) (.int k2 m))) : Sem Next).run P w) = .ok (.value (.slice (some ⟨w.heap.size, 0, none⟩) n.toNat m.toNat)) (w.alloc (.cells (madeCells z.cells (m.toNat * i.size)) te)) := by
    simp only [Sem.run_bind, hrun, Result.andThen_ok, Sem.run_pure]
  refine new_blk (w := w) (w1 := w) hf hff (madeCells z.cells (m.toNat * i.size)) te m.toNat _ rfl ?_ ?_ ⟨rfl, rfl, rfl, rfl⟩ hrun'
  · intro ι' w' hι hext hw'
    refine .inr ⟨_, hι, by simp only; omega, fun i' hi' j hj => ?_, fun _ => ⟨rfl, by simp only [maxLen]; omega, _, hw', by simp [madeCells, e1]⟩⟩
    have hlt : i' * de.sz + j < m.toNat * i.size := by
      have : (i' + 1) * de.sz ≤ m.toNat * de.sz := Nat.mul_le_mul_right _ (by omega)
      rw [Nat.add_mul] at this
      rw [← e1]; omega
    refine ⟨de.zero.getD j undef, ?_, ?_, by simp [rel]⟩
    · rw [cell_of_row w' _ _ _ te (0, 0) hw', Nat.zero_add]
      have hmod : (i' * de.sz + j) % de.sz = j := by rw [Nat.mul_comm, Nat.mul_add_mod, Nat.mod_eq_of_lt hj]
      simp only [madeCells, Array.getElem?_map, Array.getElem?_range, hlt, if_true, Option.map_some, hzs, hmod]
      rw [e3, List.getD_eq_getElem?_getD, Array.getElem?_toList]
      have hjz : j < z.cells.size := by omega
      simp [Array.getElem?_eq_getElem hjz, getElem!_pos z.cells j hjz]
    · refine one_of_vals hz _ ?_
      rw [List.getD_eq_getElem?_getD, List.getElem?_eq_getElem (by omega)]
      exact List.getElem_mem _
  · intro ι' hι hext
    simp only [rel]
    refine ⟨_, _, rfl, by omega, (fun m h => by cases h), (fun _ => ⟨_, hι, by simp, fun _ => by simp⟩)⟩

end
end Go.Vx

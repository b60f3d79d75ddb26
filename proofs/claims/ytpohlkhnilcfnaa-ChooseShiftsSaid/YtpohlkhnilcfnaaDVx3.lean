/- Lemmas of a small executor for the model, and contracts of functions, used for the law that this claim proves. No condition. -/
import Derived.Test.YtpohlkhnilcfnaaDVx2
set_option linter.unusedSimpArgs false
set_option linter.unusedVariables false
/- 'aop' is right: each operation, case by case. -/
namespace Go.Vx
variable {P : Program}

def Post (ι : Lay) (bs : Nat → Blk) (f f' : Nat) (w : World) (r : Result Next) (v : AV) (up : List (Nat × Blk)) : Prop :=
  ∃ c w' ι', (r = .ok (.value c) w' ∨ (r = .ok .skip w' ∧ c = undef)) ∧ rel ι' v c ∧ Delta ι bs f f' w ι' up w'

theorem Delta.refl {ι : Lay} {bs : Nat → Blk} {f f' : Nat} {w : World} (hf : ∀ b, f ≤ b → b < f' → ι b = none ∧ bs b = .gone) : Delta ι bs f f' w ι [] w where
  ext := fun _ _ => rfl
  br := by rintro b ⟨k, hk⟩; simp at hk
  os := rfl
  tape := rfl
  output := rfl
  size := Nat.le_refl _
  keep := fun _ _ _ => rfl
  lt := fun b l h1 h2 h3 => by rw [(hf b h1 h2).1] at h3; cases h3
  fresh := fun b l h1 h2 _ h3 => by rw [(hf b h1 h2).1] at h3; cases h3
  one := fun b b' l l' h1 h2 _ _ _ _ _ h3 => by rw [(hf b h1 h2).1] at h3; cases h3
  rwn := fun b k hk => by simp at hk
  upr := fun b k hk => by simp at hk

theorem Post.pure {ι : Lay} {bs : Nat → Blk} {f f' : Nat} {w : World} {r : Result Next} {v : AV} {c : Value} (hf : ∀ b, f ≤ b → b < f' → ι b = none ∧ bs b = .gone)
    (hr : r = .ok (.value c) w) (h : rel ι v c) : Post ι bs f f' w r v [] := ⟨c, w, ι, .inl hr, h, .refl hf⟩

theorem relL_map_val (ι : Lay) : ∀ cs : List Value, relL ι (cs.map .val) cs
  | [] => by simp [relL]
  | c :: r => by simp only [List.map_cons, relL]; exact ⟨c, r, rfl, by simp [rel], relL_map_val ι r⟩

theorem relL_length {ι : Lay} : ∀ (vs : List AV) (cs : List Value), relL ι vs cs → vs.length = cs.length
  | [], cs => by simp only [relL]; rintro rfl; rfl
  | v :: vs, cs => by simp only [relL]; rintro ⟨c, r, rfl, _, h⟩; simp [relL_length vs r h]

theorem relL_get {ι : Lay} : ∀ (vs : List AV) (cs : List Value), relL ι vs cs → ∀ (i : Nat) (v : AV), vs[i]? = some v → ∃ c, cs[i]? = some c ∧ rel ι v c
  | [], cs, _, i, v, h => by simp at h
  | v :: vs, cs, h, i, u, hu => by
    simp only [relL] at h
    obtain ⟨c, r, rfl, h1, h2⟩ := h
    cases i with
    | zero => simp at hu; subst hu; exact ⟨c, rfl, h1⟩
    | succ i => simpa using relL_get vs r h2 i u (by simpa using hu)

theorem relL_of_get {ι : Lay} : ∀ (vs : List AV) (cs : List Value), vs.length = cs.length → (∀ (i : Nat) (v : AV) (c : Value), vs[i]? = some v → cs[i]? = some c → rel ι v c) → relL ι vs cs
  | [], cs, h, _ => by simp only [relL]; exact List.eq_nil_of_length_eq_zero (by simpa using h.symm)
  | v :: vs, [], h, _ => by simp at h
  | v :: vs, c :: r, h, hg => by
    simp only [relL]
    exact ⟨c, r, rfl, hg 0 v c rfl rfl, relL_of_get vs r (by simpa using h) fun i v' c' h1 h2 => hg (i + 1) v' c' (by simpa using h1) (by simpa using h2)⟩

theorem relL_cons {ι : Lay} {v : AV} {vs : List AV} {c : Value} {cs : List Value} : relL ι (v :: vs) (c :: cs) ↔ rel ι v c ∧ relL ι vs cs := by
  simp only [relL]
  constructor
  · rintro ⟨c', r, h, h1, h2⟩; simp at h; obtain ⟨rfl, rfl⟩ := h; exact ⟨h1, h2⟩
  · rintro ⟨h1, h2⟩; exact ⟨c, cs, rfl, h1, h2⟩

theorem rel_ofVal (ι : Lay) (v : Value) (h : v.cells.toList.all Value.oneCell' = true) : rel ι (ofVal v) v := by
  cases v <;> simp only [ofVal, rel]
  case agg cs =>
    refine ⟨cs.toList, by simp, relL_map_val _ _, fun u hu => ?_⟩
    simp only [Value.cells, List.all_eq_true] at h
    exact h u hu
  case tuple cs => exact ⟨cs.toList, by simp, relL_map_val _ _⟩

/-- The cells of a value. -/
theorem cells_rel {ι : Lay} {v : AV} {c : Value} (h : rel ι v c) (h1 : allOne v.cells = true) : relL ι v.cells c.cells.toList ∧ ∀ u ∈ c.cells.toList, u.oneCell' = true := by
  have plain : ∀ {v : AV} {c : Value}, rel ι v c → v.one = true → c.cells = #[c] ∧ c.oneCell' = true := by
    intro v c h h1
    cases v with
    | dead => simp [AV.one] at h1
    | val u => simp only [rel] at h; subst h; cases c <;> simp_all [AV.one, Value.cells, Value.oneCell']
    | sb b => simp only [rel] at h; subst h; simp [Value.cells, Value.oneCell']
    | ptr b e i j => simp only [rel] at h; obtain ⟨l, _, rfl⟩ := h; simp [Value.cells, Value.oneCell']
    | sl b e off len cap => simp only [rel] at h; obtain ⟨a, k, rfl, _⟩ := h; simp [Value.cells, Value.oneCell']
    | fn f caps => simp only [rel] at h; obtain ⟨cs, rfl, _⟩ := h; simp [Value.cells, Value.oneCell']
    | agg cs => simp [AV.one] at h1
    | tup cs => simp [AV.one] at h1
    | map b => simp only [rel] at h; obtain ⟨l, _, rfl⟩ := h; simp [Value.cells, Value.oneCell']
  by_cases ha : ∃ cs, v = .agg cs
  · obtain ⟨cs, rfl⟩ := ha
    simp only [rel] at h
    obtain ⟨us, rfl, h2, h3⟩ := h
    simp only [AV.cells, Value.cells]
    exact ⟨by simpa using h2, by simpa using h3⟩
  · have hc : v.cells = [v] := by
      cases v <;> simp_all [AV.cells]
    rw [hc] at h1 ⊢
    obtain ⟨e1, e2⟩ := plain h (by simpa [allOne] using h1)
    rw [e1]
    refine ⟨by simp only [relL]; exact ⟨c, [], by simp, h, rfl⟩, ?_⟩
    intro u hu
    simp at hu
    rw [hu]; exact e2

theorem underlying_run {t : TypeId} {d : TypeDesc} (h : P.underlying t = some d) (w : World) : (underlying t).run P w = .ok d w := run_underlying h w

/-- What the tables say, in the model's words. -/
theorem tk_info {t : TypeId} {d : TyD} (h : tkOf P t = some d) : ∃ i u z, P.info? t = some i ∧ P.underlying t = some u ∧ i.zero = some z ∧ d.sz = i.size ∧ d.bytes = i.bytes ∧ d.zero = z.cells.toList ∧
    d.k = (match u with
          | .bool => .bool
          | .string => .str
          | .int k => .int k
          | .slice e => .slice e
          | .struct fs => .struct (fs.toList.map fun f => (f.offset, sizeOfP P f.type, aggOf P f.type))
          | .array n e => .array n e
          | .map k e => .map k e
          | .pointer e => .ptr e
          | _ => .other) ∧ fieldsOK P u = true ∧ zeroOK u z = true := by
  unfold tkOf at h
  split at h
  · rename_i i u hi hu
    split at h
    · rename_i z hz
      cases hfo : (fieldsOK P u && zeroOK u z) with
      | false => simp [hfo] at h
      | true =>
      simp only [hfo, Bool.not_true, cond_false, Option.some.injEq] at h
      subst h
      simp only [Bool.and_eq_true] at hfo
      exact ⟨i, u, z, hi, hu, hz, rfl, rfl, rfl, rfl, hfo.1, hfo.2⟩
    · cases h
  · cases h

theorem tk_agg {t : TypeId} {d : TyD} (h : tkOf P t = some d) (w : World) : (isAgg t).run P w = .ok d.k.agg w := by
  obtain ⟨i, u, z, _, hu, _, _, _, _, hk, _⟩ := tk_info h
  simp only [isAgg, Sem.run_bind, run_underlying hu, Result.andThen_ok]
  rw [hk]
  cases u <;> rfl
theorem tk_size {t : TypeId} {d : TyD} (h : tkOf P t = some d) (w : World) : (sizeOf t).run P w = .ok d.sz w := by
  obtain ⟨i, u, z, hi, hu, _, hs, _⟩ := tk_info h
  simp [sizeOf, typeInfo, hi, hs]
theorem tk_zero {t : TypeId} {d : TyD} (h : tkOf P t = some d) (w : World) : ∃ z : Value, (zeroValue t).run P w = .ok z w ∧ d.zero = z.cells.toList := by
  obtain ⟨i, u, z, hi, hu, hz, _, _, h0, _⟩ := tk_info h
  exact ⟨z, by simp [zeroValue, typeInfo, hi, hz], h0⟩
theorem tk_t {t : TypeId} {d : TyD} (h : tkOf P t = some d) : d.t = t := by
  unfold tkOf at h
  split at h
  · split at h
    · rename_i i u hi hu z hz
      revert h
      generalize (fieldsOK P _ && zeroOK _ _) = q
      cases q with
      | false => intro h; cases h
      | true =>
        intro h
        simp only [Bool.not_true, cond_false, Option.some.injEq] at h
        rw [← h]
    · cases h
  · cases h
theorem tk_eq {t : TypeId} {d : TyD} (h : tkOf P t = some d) : d.eq = eqOf P t := by
  unfold tkOf at h
  split at h
  · split at h
    · rename_i i u hi hu z hz
      revert h
      generalize (fieldsOK P _ && zeroOK _ _) = q
      cases q with
      | false => intro h; cases h
      | true =>
        intro h
        simp only [Bool.not_true, cond_false, Option.some.injEq] at h
        rw [← h]
    · cases h
  · cases h
theorem tk_ptr {t e : TypeId} {d : TyD} (h : tkOf P t = some d) (hk : d.k = .ptr e) : P.underlying t = some (.pointer e) := by
  obtain ⟨i, u, z, _, hu, _, _, _, _, hk', hfo, _⟩ := tk_info h
  rw [hk] at hk'
  cases u <;> simp at hk'
  subst hk'; exact hu
theorem tk_slice {t e : TypeId} {d : TyD} (h : tkOf P t = some d) (hk : d.k = .slice e) : P.underlying t = some (.slice e) := by
  obtain ⟨i, u, z, _, hu, _, _, _, _, hk', hfo, _⟩ := tk_info h
  rw [hk] at hk'
  cases u <;> simp at hk'
  subst hk'; exact hu
theorem tk_map {t a b : TypeId} {d : TyD} (h : tkOf P t = some d) (hk : d.k = .map a b) : P.underlying t = some (.map a b) := by
  obtain ⟨i, u, z, _, hu, _, _, _, _, hk', hfo, _⟩ := tk_info h
  rw [hk] at hk'
  cases u <;> simp at hk'
  obtain ⟨rfl, rfl⟩ := hk'; exact hu
theorem tk_int {t : TypeId} {k : IntKind} {d : TyD} (h : tkOf P t = some d) (hk : d.k = .int k) : P.underlying t = some (.int k) := by
  obtain ⟨i, u, z, _, hu, _, _, _, _, hk', hfo, _⟩ := tk_info h
  rw [hk] at hk'
  cases u <;> simp at hk'
  subst hk'; exact hu
theorem tk_bool {t : TypeId} {d : TyD} (h : tkOf P t = some d) (hk : d.k = .bool) : P.underlying t = some .bool := by
  obtain ⟨i, u, z, _, hu, _, _, _, _, hk', hfo, _⟩ := tk_info h
  rw [hk] at hk'
  cases u <;> simp at hk'
  exact hu
theorem tk_struct {t : TypeId} {d : TyD} {fs : List (Nat × Nat × Bool)} (h : tkOf P t = some d) (hk : d.k = .struct fs) :
    ∃ fa : Array Field, P.underlying t = some (.struct fa) ∧ fs = (fa.toList.map fun f => (f.offset, sizeOfP P f.type, aggOf P f.type)) ∧ fieldsOK P (.struct fa) = true := by
  obtain ⟨i, u, z, _, hu, _, _, _, _, hk', hfo, _⟩ := tk_info h
  rw [hk] at hk'
  cases u <;> simp at hk'
  exact ⟨_, hu, hk', hfo⟩

theorem range'_length (n i : Nat) : (range' n i).length = n := by
  induction n generalizing i with
  | zero => rfl
  | succ n ih => simp [range', ih]
theorem range'_get (n i m : Nat) (h : m < n) : (range' n i)[m]? = some (i + m) := by
  induction n generalizing i m with
  | zero => omega
  | succ n ih =>
    cases m with
    | zero => simp [range']
    | succ m => simp only [range', List.getElem?_cons_succ]; rw [ih (i + 1) m (by omega)]; congr 1; omega

/-- Cells that are read. -/
theorem read_ok {ι : Lay} {w : World} {b : Nat} {k : Blk} {e i j sz : Nat} {p : List Prop} {cs : List AV} (hb : BR ι w b k) (hr : readCells k e i j sz = some (p, cs)) (hp : holdsL p) :
    ∃ l us, ι b = some l ∧ us.length = sz ∧ (∀ m u, us[m]? = some u → w.cell? ((⟨l.g, l.o + (i * e + j), none⟩ : Addr).add m) = some u ∧ u.oneCell' = true) ∧ relL ι cs us := by
  have hadd : ∀ (g o m : Nat), (⟨g, o, none⟩ : Addr).add m = ⟨g, o + m, none⟩ := fun g o m => by unfold Addr.add; split <;> simp_all
  have key : ∀ (l : Loc) (F : Nat → AV), (∀ m, m < sz → ∃ c, w.cell? ⟨l.g, l.o + (i * e + j) + m, none⟩ = some c ∧ c.oneCell' = true ∧ rel ι (F (j + m)) c) → ι b = some l → cs = (range' sz j).map F →
      ∃ l us, ι b = some l ∧ us.length = sz ∧ (∀ m u, us[m]? = some u → w.cell? ((⟨l.g, l.o + (i * e + j), none⟩ : Addr).add m) = some u ∧ u.oneCell' = true) ∧ relL ι cs us := by
    intro l F h hl hcs
    refine ⟨l, (List.range sz).map fun m => (w.cell? ⟨l.g, l.o + (i * e + j) + m, none⟩).getD undef, hl, by simp, fun m u hu => ?_, ?_⟩
    · have hm : m < sz := by
        rcases Nat.lt_or_ge m sz with h' | h'
        · exact h'
        · rw [List.getElem?_eq_none (by simpa using h')] at hu; cases hu
      obtain ⟨c, h1, h2, _⟩ := h m hm
      rw [List.getElem?_map, List.getElem?_range hm] at hu
      simp only [Option.map_some, h1, Option.getD_some, Option.some.injEq] at hu
      subst hu
      rw [hadd]
      exact ⟨h1, h2⟩
    · rw [hcs]
      refine relL_of_get _ _ (by simp [range'_length]) fun m v c hv hc => ?_
      have hm : m < sz := by
        rcases Nat.lt_or_ge m sz with h' | h'
        · exact h'
        · rw [List.getElem?_eq_none (by simpa using h')] at hc; cases hc
      rw [List.getElem?_map, range'_get _ _ _ hm] at hv
      rw [List.getElem?_map, List.getElem?_range hm] at hc
      obtain ⟨c', h1, _, h3⟩ := h m hm
      simp only [Option.map_some, h1, Option.getD_some, Option.some.injEq] at hc hv
      subst hc; subst hv
      exact h3
  cases k with
  | gone => simp [readCells] at hr
  | map ka ks c => simp [readCells] at hr
  | var vs =>
    simp only [readCells] at hr
    obtain ⟨hq, hr⟩ := bif_some hr
    simp only [Prod.mk.injEq] at hr
    obtain ⟨_, rfl⟩ := hr
    simp only [Bool.and_eq_true] at hq
    have h0 := Nat.eq_of_beq_eq_true hq.1
    have hle := Nat.le_of_ble_eq_true hq.2
    subst h0
    obtain ⟨l, C, t, h1, h2, h3, h4⟩ := hb
    refine key l (fun m => vs.getD m .dead) (fun m hm => ?_) h1 rfl
    have hv : vs[j + m]? = some (vs.getD (j + m) .dead) := by
      rw [List.getD_eq_getElem?_getD, List.getElem?_eq_getElem (by omega)]; rfl
    obtain ⟨c, q1, q2, q3⟩ := h4 (j + m) _ hv
    refine ⟨c, ?_, q2, q3⟩
    rw [cell_of_row w l.g _ C t (0, 0) h3, h2.1, ← q1]
    congr 1; omega
  | arr rw t e' n c =>
    simp only [readCells] at hr
    obtain ⟨hq, hr⟩ := bif_some hr
    simp only [Prod.mk.injEq] at hr
    obtain ⟨rfl, rfl⟩ := hr
    simp only [Bool.and_eq_true] at hq
    have he' := Nat.eq_of_beq_eq_true hq.1
    have hj := Nat.le_of_ble_eq_true hq.2
    subst he'
    obtain ⟨hi, _⟩ := hp
    rcases hb with ⟨h0, _⟩ | ⟨l, h1, h2, h3, h4⟩
    · omega
    · refine key l (fun m => c i m) (fun m hm => ?_) h1 rfl
      obtain ⟨cv, q1, q2, q3⟩ := h3 i hi (j + m) (by omega)
      exact ⟨cv, by rw [← q1]; congr 2; omega, q2, q3⟩

end Go.Vx

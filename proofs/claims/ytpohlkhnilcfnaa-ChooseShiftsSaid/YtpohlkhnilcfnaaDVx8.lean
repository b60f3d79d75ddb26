/- Lemmas of a small executor for the model, and contracts of functions, used for the law that this claim proves. No condition. -/
import Derived.Test.YtpohlkhnilcfnaaDVx7
import Derived.Test.YtpohlkhnilcfnaaDVx22
import Derived.Laws.StructEq
import Derived.Laws.Pointers
import Derived.Laws.Cover3
set_option linter.unusedSimpArgs false
set_option linter.unusedVariables false
namespace Go.Vx
variable {P : Program}
section
variable {ι : Lay} {bs : Nat → Blk} {f f' : Nat} {w : World}

theorem rel_pick {x y : AV} {cx cy : Value} (hx : rel ι x cx) (hy : rel ι y cy) (t : Bool) : rel ι (match t with | true => x | false => y) (if t then cx else cy) := by
  cases t <;> simpa

theorem field_size {fa : Array Field} (hfo : fieldsOK P (.struct fa) = true) {fl : Field} (h : fl ∈ fa.toList) (w : World) : (sizeOf fl.type).run P w = .ok (sizeOfP P fl.type) w := by
  simp only [fieldsOK, List.all_eq_true, Bool.and_eq_true] at hfo
  have := (hfo fl h).1
  cases hi : P.info? fl.type with
  | none => simp [hi] at this
  | some i => simp [sizeOf, typeInfo, hi, sizeOfP]
theorem field_agg {fa : Array Field} (hfo : fieldsOK P (.struct fa) = true) {fl : Field} (h : fl ∈ fa.toList) (w : World) : (isAgg fl.type).run P w = .ok (aggOf P fl.type) w := by
  simp only [fieldsOK, List.all_eq_true, Bool.and_eq_true] at hfo
  have := (hfo fl h).2
  cases hi : P.underlying fl.type with
  | none => simp [hi] at this
  | some u => simp only [isAgg, Sem.run_bind, run_underlying hi, Result.andThen_ok, aggOf, hi]; cases u <;> rfl

theorem iBin_run {op : BinOp} {k : IntKind} {a b : Int} {p : List Prop} {v : AV} (h : iBin op k a b = some (p, v)) (hp : holdsL p) (x y : Operand) (t : TypeId) :
    ∃ c, (do eqGuard op t x y (.int k a) (.int k b); binOp op t (.int k a) (.int k b) : Sem Value).run P w = .ok c w ∧ rel ι v c := by
  have hg : eqGuard op t x y (.int k a) (.int k b) = pure () := by cases op <;> rfl
  rw [hg]
  cases op <;> simp only [iBin, Option.some.injEq, Prod.mk.injEq] at h <;> first
    | (cases h; done)
    | (obtain ⟨rfl, rfl⟩ := h
       first
       | (refine ⟨_, ?_, by simp only [rel]; rfl⟩
          simp [binOp, Op.intArith, Op.intCmp]
          done)
       | (refine ⟨_, ?_, by simp only [rel]; rfl⟩
          simp [binOp, Op.intDiv, hp.1]))

theorem run_equal_bool (a b : Bool) {t : TypeId} (ht : P.underlying t = some .bool) : (Op.equal t (.bool a) (.bool b)).run P w = .ok (a == b) w := by
  have : ∀ d, (Op.equalIn (d + 1) t (.bool a) (.bool b)).run P w = .ok (a == b) w := fun d => by simp [Op.equalIn, run_underlying ht]
  exact this 9999

theorem toB_rel {v : AV} {c : Value} {b : Bool} (h : toB v = some b) (hr : rel ι v c) : c = .bool b := by
  cases v with
  | sb x => simp only [toB, Option.some.injEq] at h; subst h; simpa [rel] using hr
  | val u => cases u <;> simp only [toB, Option.some.injEq] at h <;> first | (subst h; simpa [rel] using hr) | cases h
  | _ => cases h

theorem bBin_run {op : BinOp} {a b : Bool} {p : List Prop} {v : AV} (h : bBin op a b = some (p, v)) (x y : Operand) (t : TypeId) (ht : P.underlying t = some .bool) :
    ∃ c, (do eqGuard op t x y (.bool a) (.bool b); binOp op t (.bool a) (.bool b) : Sem Value).run P w = .ok c w ∧ rel ι v c := by
  have hg : eqGuard op t x y (.bool a) (.bool b) = pure () := by cases op <;> rfl
  rw [hg]
  cases op <;> simp only [bBin, Option.some.injEq, Prod.mk.injEq] at h <;> first
    | (cases h; done)
    | (obtain ⟨rfl, rfl⟩ := h
       refine ⟨_, ?_, by simp only [rel]; rfl⟩
       have e := run_equal_bool (P := P) (w := w) a b ht
       simp [binOp, e])

theorem eq1_run {k : Bool} {x y : AV} {c d : Value} {b : Bool} (h : eq1 k x y = some b) (hx : rel ι x c) (hy : rel ι y d) {t : TypeId} (ht : (k = true ∧ ∃ k', P.underlying t = some (.int k')) ∨ (k = false ∧ P.underlying t = some .bool)) (n : Nat) :
    (Op.equalIn (n + 1) t c d).run P w = .ok b w := by
  rcases ht with ⟨rfl, k', ht⟩ | ⟨rfl, ht⟩
  · simp only [eq1] at h
    split at h
    · rename_i ka a kb b'
      obtain ⟨h1, rfl⟩ := bif_some h
      have := kEq_eq h1
      subst this
      simp only [rel] at hx hy
      subst hx; subst hy
      exact run_equalIn_int w n t _ k' _ _ ht
    · cases h
  · simp only [eq1] at h
    split at h
    · rename_i a b' h1 h2
      simp only [Option.some.injEq] at h
      subst h
      have e1 := toB_rel h1 hx
      have e2 := toB_rel h2 hy
      subst e1; subst e2
      exact run_equalIn_bool' w n t _ _ ht
    · cases h
theorem eqCells_run {CS DS : Array Value} {n : Nat} : ∀ (fs : List Field) (ks : List Bool) (i : Nat) (xs ys : List AV) (cs ds : List Value) (b : Bool), eqKinds P fs i = some ks → eqCells ks xs ys = some b → relL ι xs cs → relL ι ys ds →
    (∀ j, CS[i + j]? = cs[j]?) → (∀ j, DS[i + j]? = ds[j]?) → (Op.eqFields (n + 1) CS DS fs).run P w = .ok b w
  | [], ks, i, xs, ys, cs, ds, b, hk, h, _, _, _, _ => by
    simp only [eqKinds, Option.some.injEq] at hk
    subst hk
    match xs, ys with
    | [], [] => simp only [eqCells, Option.some.injEq] at h; subst h; rfl
    | [], _ :: _ => simp [eqCells] at h
    | _ :: _, [] => simp [eqCells] at h
    | _ :: _, _ :: _ => simp [eqCells] at h
  | f :: r, ks, i, xs, ys, cs, ds, b, hk, h, hx, hy, hc, hd => by
    simp only [eqKinds] at hk
    cases hq : (Nat.beq f.offset i && f.name != "_") with
    | false => rw [hq] at hk; cases hk
    | true =>
      rw [hq] at hk
      simp only [cond_true] at hk
      simp only [Bool.and_eq_true, bne_iff_ne, ne_eq] at hq
      have ho := Nat.eq_of_beq_eq_true hq.1
      have key : ∃ k l, ks = k :: l ∧ eqKinds P r (i + 1) = some l ∧ ((k = true ∧ ∃ k', P.underlying f.type = some (.int k')) ∨ (k = false ∧ P.underlying f.type = some .bool)) := by
        split at hk
        · rename_i k' l h1 h2
          simp only [Option.some.injEq] at hk
          exact ⟨true, l, hk.symm, h2, .inl ⟨rfl, k', h1⟩⟩
        · rename_i l h1 h2
          simp only [Option.some.injEq] at hk
          exact ⟨false, l, hk.symm, h2, .inr ⟨rfl, h1⟩⟩
        · cases hk
      obtain ⟨k, l, rfl, hl, ht⟩ := key
      match xs, ys with
      | x :: xs, y :: ys =>
        simp only [eqCells] at h
        split at h
        · rename_i b1 b2 h1 h2
          simp only [Option.some.injEq] at h
          subst h
          simp only [relL] at hx hy
          obtain ⟨c, cs', rfl, hx1, hx2⟩ := hx
          obtain ⟨d, ds', rfl, hy1, hy2⟩ := hy
          have hc0 := hc 0
          have hd0 := hd 0
          simp only [Nat.add_zero, List.getElem?_cons_zero] at hc0 hd0
          have hag : (isAgg f.type).run P w = .ok false w := by
            rcases ht with ⟨_, k', ht⟩ | ⟨_, ht⟩ <;> simp [isAgg, run_underlying ht]
          have p1 : (part f.type CS f.offset).run P w = .ok c w := by simp [part, hag, ho, hc0]
          have p2 : (part f.type DS f.offset).run P w = .ok d w := by simp [part, hag, ho, hd0]
          have e := eq1_run (P := P) (w := w) h1 hx1 hy1 ht n
          have ih := eqCells_run (n := n) r l (i + 1) xs ys cs' ds' b2 hl h2 hx2 hy2 (fun j => by have := hc (j + 1); rw [List.getElem?_cons_succ] at this; rw [← this]; congr 1; omega)
            (fun j => by have := hd (j + 1); rw [List.getElem?_cons_succ] at this; rw [← this]; congr 1; omega)
          simp only [Op.eqFields, ne_eq, hq.2, not_false_eq_true, if_true, Sem.run_bind, p1, p2, e, Result.andThen_ok]
          cases b1 with
          | true => simpa using ih
          | false => simp
        · cases h
      | [], _ => simp [eqCells] at h
      | _ :: _, [] => simp [eqCells] at h

theorem sEq_run {T : Tab} (hT : TabOK P T) {x y : AV} {t : TypeId} {b : Bool} (h : sEq x y (T.get t) = some b) {c d : Value} (hx : rel ι x c) (hy : rel ι y d) {op : BinOp} {p : List Prop} {v : AV} (hs : sBin op b = some (p, v)) (o1 o2 : Operand) :
    ∃ u, (do eqGuard op t o1 o2 c d; binOp op t c d : Sem Value).run P w = .ok u w ∧ rel ι v u := by
  have fin : ∀ (hg : (eqGuard op t o1 o2 c d).run P w = .ok () w) (he : (binOp .eql t c d).run P w = .ok (.bool b) w) (hn : (binOp .neq t c d).run P w = .ok (.bool (!b)) w),
      ∃ u, (do eqGuard op t o1 o2 c d; binOp op t c d : Sem Value).run P w = .ok u w ∧ rel ι v u := by
    intro hg he hn
    cases op <;> simp only [sBin, Option.some.injEq, Prod.mk.injEq] at hs <;> first
      | (cases hs; done)
      | (obtain ⟨rfl, rfl⟩ := hs
         refine ⟨_, ?_, by simp only [rel]; rfl⟩
         simp only [Sem.run_bind, hg, Result.andThen_ok, he, hn])
  unfold sEq at h
  split at h
  · rename_i xs ys _ _ _ _ _ ks hd
    have htk := Tab.get_ok hT hd
    have he := tk_eq htk
    simp only at he
    unfold eqOf at he
    split at he
    · rename_i fs hu
      cases hq : (!P.stoodInHeld t && !P.eqGuardType P.depth t) with
      | false => rw [hq] at he; cases he
      | true =>
        rw [hq] at he
        simp only [cond_true] at he
        simp only [Bool.and_eq_true, Bool.not_eq_true'] at hq
        simp only [rel] at hx hy
        obtain ⟨cs, rfl, hx1, _⟩ := hx
        obtain ⟨ds, rfl, hy1, _⟩ := hy
        have hf : P.fieldsOf t = fs := by simp [Program.fieldsOf, hu]
        have hr := run_equalIn_struct (P := P) w 9999 t cs.toArray ds.toArray (by rw [hf]; exact hu) hq.1
        rw [hf, eqCells_run (P := P) (w := w) (n := 9998) fs.toList ks 0 xs ys cs ds b he.symm h hx1 hy1 (fun j => by simp) (fun j => by simp)] at hr
        refine fin (run_eqGuard_agg w op t o1 o2 _ _ hq.2) ?_ ?_
        · rw [run_eql_struct, hr]; rfl
        · rw [run_neq_struct, hr]; rfl
    · cases he
  · rename_i hd
    simp only [Option.some.injEq] at h
    subst h
    have hu := tk_ptr (Tab.get_ok hT hd) rfl
    simp only [rel] at hx hy
    obtain ⟨l, _, rfl⟩ := hx
    subst hy
    have hp : P.underlying t = some (.pointer (P.pointee t)) := by simp [Program.pointee, hu]
    refine fin (by cases op <;> rfl) ?_ ?_
    · rw [run_eql_pointer_nil w t _ hp]; rfl
    · rw [run_neq_pointer_nil w t _ hp]; rfl
  · rename_i hd
    simp only [Option.some.injEq] at h
    subst h
    have hu := tk_ptr (Tab.get_ok hT hd) rfl
    simp only [rel] at hx hy
    subst hx; subst hy
    have hp : P.underlying t = some (.pointer (P.pointee t)) := by simp [Program.pointee, hu]
    refine fin (by cases op <;> rfl) ?_ ?_
    · rw [run_eql_pointer_nil w t _ hp]; rfl
    · rw [run_neq_pointer_nil w t _ hp]; rfl
  · cases h

theorem nilCmp_run {T : Tab} (hT : TabOK P T) {ρ : Operand → AV} {ca : Operand → Value} (hρ : ∀ x, rel ι (ρ x) (ca x)) {o : Oper} {p : Bool} {len : Nat} (h : nilCmp T o.op ρ = some (p, len)) :
    ∃ nb : Bool, (nb = true → len = 0) ∧ ∃ c, (execOp ca o).run P w = .ok (.value c) w ∧ rel ι (nilV p nb) c := by
  have fin : ∀ (t e : TypeId) (x y : Operand) (t' : TypeId) (a : Option Addr) (l k : Nat) (op : BinOp) (q : Bool), P.underlying t = some (.slice e) → ca x = .slice a l k → ca y = .slice none 0 0 → ((op = .eql ∧ q = true) ∨ (op = .neq ∧ q = false)) →
      o.op = .binOp op t x y t' → ∃ c, (execOp ca o).run P w = .ok (.value c) w ∧ rel ι (nilV q a.isNone) c := by
    intro t e x y t' a l k op q hu hx hy hq ho
    have heq := run_equal_slice_nil (P := P) w t e a l k hu
    rcases hq with ⟨rfl, rfl⟩ | ⟨rfl, rfl⟩
    · refine ⟨.bool a.isNone, ?_, by simp [nilV, rel]⟩
      simp [execOp, ho, hx, hy, eqGuard, binOp, heq]
    · refine ⟨.bool (!a.isNone), ?_, by simp [nilV, rel]⟩
      simp [execOp, ho, hx, hy, eqGuard, binOp, heq]
  have val : ∀ x b e off ln cap, ρ x = .sl b e off ln cap → ∃ a k, ca x = .slice a ln k ∧ (a.isNone = true → ln = 0) := by
    intro x b e off ln cap hx
    have := hρ x
    rw [hx] at this
    simp only [rel] at this
    obtain ⟨a, k, h1, h2, _, h4⟩ := this
    refine ⟨a, k, h1, fun ha => ?_⟩
    rcases Nat.eq_zero_or_pos k with hk | hk
    · omega
    · obtain ⟨l, _, h5, _⟩ := h4 hk
      rw [h5] at ha; cases ha
  unfold nilCmp at h
  split at h
  · rename_i t x y t' ho
    split at h
    · rename_i e _ _ _ _ b e' off ln cap hd hx hy
      simp only [Option.some.injEq, Prod.mk.injEq] at h
      obtain ⟨rfl, rfl⟩ := h
      obtain ⟨a, k, h1, h2⟩ := val x _ _ _ _ _ hx
      have h3 := hρ y
      rw [hy] at h3
      exact ⟨a.isNone, h2, fin t e x y t' a _ k .eql true (tk_slice (Tab.get_ok hT hd) rfl) h1 h3 (.inl ⟨rfl, rfl⟩) ho⟩
    · rename_i e _ _ _ _ hd hx hy
      simp only [Option.some.injEq, Prod.mk.injEq] at h
      obtain ⟨rfl, rfl⟩ := h
      have h1 := hρ x
      rw [hx] at h1
      have h3 := hρ y
      rw [hy] at h3
      exact ⟨true, fun _ => rfl, fin t e x y t' none 0 0 .eql true (tk_slice (Tab.get_ok hT hd) rfl) h1 h3 (.inl ⟨rfl, rfl⟩) ho⟩
    · cases h
  · rename_i t x y t' ho
    split at h
    · rename_i e _ _ _ _ b e' off ln cap hd hx hy
      simp only [Option.some.injEq, Prod.mk.injEq] at h
      obtain ⟨rfl, rfl⟩ := h
      obtain ⟨a, k, h1, h2⟩ := val x _ _ _ _ _ hx
      have h3 := hρ y
      rw [hy] at h3
      exact ⟨a.isNone, h2, fin t e x y t' a _ k .neq false (tk_slice (Tab.get_ok hT hd) rfl) h1 h3 (.inr ⟨rfl, rfl⟩) ho⟩
    · rename_i e _ _ _ _ hd hx hy
      simp only [Option.some.injEq, Prod.mk.injEq] at h
      obtain ⟨rfl, rfl⟩ := h
      have h1 := hρ x
      rw [hx] at h1
      have h3 := hρ y
      rw [hy] at h3
      exact ⟨true, fun _ => rfl, fin t e x y t' none 0 0 .neq false (tk_slice (Tab.get_ok hT hd) rfl) h1 h3 (.inr ⟨rfl, rfl⟩) ho⟩
    · cases h
  · cases h

theorem intArg_cases {ρ : Operand → AV} {o : Option Operand} {d n : Int} (h : intArg (o.map ρ) d = some n) : (o = none ∧ n = d) ∨ ∃ x k, o = some x ∧ ρ x = .val (.int k n) := by
  cases o with
  | none => simp only [Option.map_none, intArg, Option.some.injEq] at h; exact .inl ⟨rfl, h.symm⟩
  | some x =>
    simp only [Option.map_some] at h
    unfold intArg at h
    split at h
    · rename_i h1; cases h1
    · rename_i m k _ h1
      simp only [Option.some.injEq] at h1 h
      subst h
      exact .inr ⟨x, _, rfl, h1⟩
    · cases h

theorem rel_sliced {b e off len : Nat} {cap : Option Nat} {a : Option Addr} {k l h m : Nat} (hlk : h ≤ m) (hlh : l ≤ h) (hmk : m ≤ k) (h3 : 0 < k → ∃ l, ι b = some l ∧ a = some ⟨l.g, l.o + off * e, none⟩ ∧ (cap = none → off + k = l.n)) (cap' : Option Nat)
    (hc : ∀ q, cap' = some q → m - l = q) (hn : cap' = none → cap = none ∧ m = k) (hlen : len = h - l) :
    rel ι (.sl b e (off + l) len cap') (.slice (if m = l then a else a.map (·.add (l * e))) (h - l) (m - l)) := by
  simp only [rel]
  subst hlen
  refine ⟨_, _, rfl, by omega, hc, fun hk => ?_⟩
  obtain ⟨lc, q1, rfl, q2⟩ := h3 (by omega)
  refine ⟨lc, q1, ?_, fun hcn => ?_⟩
  · rw [if_neg (by omega)]
    simp only [Option.map_some, addr_add, Nat.add_mul]
    congr 2; omega
  · obtain ⟨e1, e2⟩ := hn hcn
    have := q2 e1
    omega

theorem aop_sound {T : Tab} (hT : TabOK P T) {ρ : Operand → AV} {ca : Operand → Value} (hρ : ∀ x, rel ι (ρ x) (ca x)) (hf : ∀ b, f ≤ b → b < f' → ι b = none ∧ bs b = .gone)
    (hb : ∀ b, BR ι w b (bs b)) (hlt : ∀ b l, ι b = some l → l.g < w.heap.size) {o : Oper} {p : List Prop} {v : AV} {up : List (Nat × Blk)} (h : aop T o.op ρ bs f = some (p, v, up)) (hp : holdsL p) (hff : bump o.op f ≤ f') :
    Post ι bs f f' w ((execOp ca o).run P w) v up := by
  obtain ⟨dst, op, ty, pos, after, guard⟩ := o
  simp only at h hff
  cases op with
  | move x =>
    simp only [aop, Option.some.injEq, Prod.mk.injEq] at h
    obtain ⟨rfl, rfl, rfl⟩ := h
    exact Post.pure hf rfl (hρ x)
  | assign x =>
    simp only [aop, Option.some.injEq, Prod.mk.injEq] at h
    obtain ⟨rfl, rfl, rfl⟩ := h
    exact Post.pure hf rfl (hρ x)
  | pick c a b =>
    simp only [aop] at h
    split at h
    · rename_i t hc
      simp only [Option.some.injEq, Prod.mk.injEq] at h
      obtain ⟨rfl, rfl, rfl⟩ := h
      have hcc := hρ c
      rw [hc] at hcc
      simp only [rel] at hcc
      refine Post.pure hf (c := if t then ca a else ca b) ?_ (rel_pick (hρ a) (hρ b) t)
      simp [execOp, hcc, asBool]
    · rename_i t hc
      have hcc := hρ c
      rw [hc] at hcc
      simp only [rel] at hcc
      have h1 := hρ a
      have h2 := hρ b
      split at h
      · rename_i x y hx hy
        simp only [Option.some.injEq, Prod.mk.injEq] at h
        obtain ⟨rfl, rfl, rfl⟩ := h
        rw [hx] at h1
        rw [hy] at h2
        simp only [rel] at h1 h2
        refine Post.pure hf (c := .bool (bif t then x else y)) ?_ (by simp [rel])
        cases t <;> simp [execOp, hcc, asBool, h1, h2]
      · rename_i k x k' y hx hy
        have hq := bif_some h
        clear h
        obtain ⟨hk, h⟩ := hq
        have := kEq_eq hk
        subst this
        simp only [Prod.mk.injEq] at h
        obtain ⟨rfl, rfl, rfl⟩ := h
        rw [hx] at h1
        rw [hy] at h2
        simp only [rel] at h1 h2
        refine Post.pure hf (c := .int k (bif t then x else y)) ?_ (by simp [rel])
        cases t <;> simp [execOp, hcc, asBool, h1, h2]
      · cases h
    · cases h
  | alloc t =>
    simp only [aop] at h
    split at h
    · rename_i d hd
      obtain ⟨hp, h⟩ := bif_some h
      simp only [Prod.mk.injEq] at h
      obtain ⟨_, rfl, rfl⟩ := h
      have htk := Tab.get_ok hT hd
      obtain ⟨zv, hz1, hz2⟩ := tk_zero htk w
      have hc := CellsRel.vals ι d.zero hp
      have hcells : zv.cells = d.zero.toArray := by rw [hz2]
      refine new_blk (w := w) (w1 := w) hf hff d.zero.toArray t 1 _ rfl ?_ ?_ ⟨rfl, rfl, rfl, rfl⟩ (c := .pointer (some ⟨w.heap.size, 0, none⟩)) (by simp [execOp, Instr.alloc, newVar, newRow, hz1, hcells])
      · intro ι' w' hι hext hw'
        refine ⟨_, _, t, hι, ⟨rfl, Nat.le_refl 1⟩, hw', fun j v hj => ?_⟩
        obtain ⟨c, q1, q2, q3⟩ := hc.2 j v hj
        exact ⟨c, q1, q2, rel_ext hext _ _ q3⟩
      · intro ι' hι hext
        simp only [rel]
        exact ⟨_, hι, by simp⟩
    · cases h
  | box t x =>
    simp only [aop] at h
    split at h
    · rename_i d hd
      obtain ⟨hp, h⟩ := bif_some h
      simp only [Prod.mk.injEq] at h
      obtain ⟨_, rfl, rfl⟩ := h
      obtain ⟨h1, h2⟩ := cells_rel (hρ x) hp
      refine new_blk (w := w) (w1 := w) hf hff (ca x).cells t 1 _ rfl ?_ ?_ ⟨rfl, rfl, rfl, rfl⟩ (by simp [execOp, Instr.box, newVar, newRow]; rfl)
      · intro ι' w' hι hext hw'
        refine ⟨_, (ca x).cells, t, hι, ⟨rfl, Nat.le_refl 1⟩, hw', fun j v hj => ?_⟩
        obtain ⟨c, q1, q2⟩ := relL_get _ _ h1 _ _ hj
        exact ⟨c, by simpa using q1, h2 c (List.mem_of_getElem? q1), rel_ext hext _ _ q2⟩
      · intro ι' hι hext
        simp only [rel]
        exact ⟨_, hι, by simp⟩
    · cases h
  | load t x =>
    simp only [aop] at h
    split at h
    · rename_i d b e i j hd hx
      split at h
      · rename_i p' cs hr
        obtain ⟨hq, h⟩ := bif_some h
        simp only [Prod.mk.injEq] at h
        obtain ⟨rfl, rfl, rfl⟩ := h
        have hc := hρ x
        rw [hx] at hc
        refine op_load hT hd hf (hb b) hr hp ?_ hc
        simp only [Bool.or_eq_true] at hq
        exact hq.imp id Nat.eq_of_beq_eq_true
      · cases h
    · cases h
  | store t x y =>
    simp only [aop] at h
    split at h
    · rename_i d b e i j hd hx
      split at h
      · rename_i p' k hr
        obtain ⟨hq, h⟩ := bif_some h
        simp only [Prod.mk.injEq] at h
        obtain ⟨rfl, rfl, rfl⟩ := h
        have hc := hρ x
        rw [hx] at hc
        simp only [Bool.and_eq_true] at hq
        exact op_store hT hd hf (hb b) (fun l hl => hlt b l hl) hr hp (Nat.eq_of_beq_eq_true hq.1) hq.2 hc (hρ y)
      · cases h
    · cases h
  | makeMap t r =>
    simp only [aop] at h
    split at h
    · rename_i kt et _ _ _ _ hd
      split at h
      · rename_i ka hka
        simp only [Option.some.injEq, Prod.mk.injEq] at h
        obtain ⟨rfl, rfl, rfl⟩ := h
        exact op_makeMap hf (Nat.lt_of_lt_of_le (Nat.lt_succ_self f) (by simpa [bump] using hff)) t ka (by rfl)
      · cases h
    · cases h
  | mapUpdate t m k x =>
    simp only [aop] at h
    split at h
    · rename_i kt et _ _ _ _ b hd hm
      split at h
      · rename_i ka ks F ka' hbb hka
        split at h
        · rename_i n hn
          obtain ⟨hq, hh⟩ := bif_some h
          have := kaEq_eq hq
          subst this
          obtain ⟨rfl, rfl, rfl⟩ : [] = p ∧ AV.dead = v ∧ _ = up := by simpa only [Prod.mk.injEq] using hh
          have hc := hρ m
          rw [hm] at hc
          exact op_mapUpdate hT (tk_map (Tab.get_ok hT hd) rfl) hka hf (hb b) (fun l hl => hlt b l hl) hbb hn hc (hρ k) (hρ x)
        · cases h
      · cases h
    · cases h
  | nilCheck x =>
    simp only [aop] at h
    split at h
    · rename_i b e i j hx
      simp only [Option.some.injEq, Prod.mk.injEq] at h
      obtain ⟨rfl, rfl, rfl⟩ := h
      have hc := hρ x
      rw [hx] at hc
      refine Post.pure hf (c := ca x) ?_ hc
      simp only [rel] at hc
      obtain ⟨l, _, hc⟩ := hc
      simp [execOp, hc]
    · rename_i g caps hx
      simp only [Option.some.injEq, Prod.mk.injEq] at h
      obtain ⟨rfl, rfl, rfl⟩ := h
      have hc := hρ x
      rw [hx] at hc
      refine Post.pure hf (c := ca x) ?_ hc
      simp only [rel] at hc
      obtain ⟨cs, hc, _⟩ := hc
      simp [execOp, hc]
    · cases h
  | binOp op t x y t' =>
    simp only [aop] at h
    split at h
    · rename_i p' v' hr
      simp only [Option.some.injEq, Prod.mk.injEq] at h
      obtain ⟨rfl, rfl, rfl⟩ := h
      unfold aBin at hr
      split at hr
      · rename_i k a k' b hx hy
        cases hk : kEq k k' with
        | false => simp [hk] at hr
        | true =>
          have := kEq_eq hk
          subst this
          simp only [hk, cond_true] at hr
          have h1 := hρ x
          have h2 := hρ y
          rw [hx] at h1
          rw [hy] at h2
          simp only [rel] at h1 h2
          obtain ⟨c, q1, q2⟩ := iBin_run (P := P) (ι := ι) (w := w) hr hp x y t
          refine Post.pure hf (c := c) ?_ q2
          simp only [execOp, h1, h2]
          simp only [Sem.run_bind] at q1 ⊢
          rw [q1]; rfl
      · cases hr
    · split at h
      · rename_i a b _ _ _ _ _ ha hb' hd
        split at h
        · rename_i p' v' hr
          simp only [Option.some.injEq, Prod.mk.injEq] at h
          obtain ⟨rfl, rfl, rfl⟩ := h
          have h1 := toB_rel ha (hρ x)
          have h2 := toB_rel hb' (hρ y)
          obtain ⟨c, q1, q2⟩ := bBin_run (P := P) (ι := ι) (w := w) hr x y t (tk_bool (Tab.get_ok hT hd) rfl)
          refine Post.pure hf (c := c) ?_ q2
          simp only [execOp, h1, h2]
          simp only [Sem.run_bind] at q1 ⊢
          rw [q1]; rfl
        · cases h
      · split at h
        · rename_i b hb'
          split at h
          · rename_i p' v' hr
            simp only [Option.some.injEq, Prod.mk.injEq] at h
            obtain ⟨rfl, rfl, rfl⟩ := h
            obtain ⟨c, q1, q2⟩ := sEq_run (P := P) (ι := ι) (w := w) hT hb' (hρ x) (hρ y) hr x y
            refine Post.pure hf (c := c) ?_ q2
            simp only [execOp]
            simp only [Sem.run_bind] at q1 ⊢
            rw [q1]; rfl
          · cases h
        · cases h
  | unOp op t x =>
    simp only [aop] at h
    split at h
    · rename_i p' v' hr
      simp only [Option.some.injEq, Prod.mk.injEq] at h
      obtain ⟨rfl, rfl, rfl⟩ := h
      unfold aUn at hr
      split at hr
      · rename_i b hx
        simp only [Option.some.injEq, Prod.mk.injEq] at hr
        obtain ⟨rfl, rfl⟩ := hr
        have h1 := hρ x
        rw [hx] at h1
        simp only [rel] at h1
        exact Post.pure hf (c := .bool (!b)) (by simp [execOp, h1, Op.unary]) (by simp [rel])
      · rename_i b hx
        simp only [Option.some.injEq, Prod.mk.injEq] at hr
        obtain ⟨rfl, rfl⟩ := hr
        have h1 := hρ x
        rw [hx] at h1
        simp only [rel] at h1
        exact Post.pure hf (c := .bool (!b)) (by simp [execOp, h1, Op.unary]) (by simp [rel])
      · rename_i k n hx
        simp only [Option.some.injEq, Prod.mk.injEq] at hr
        obtain ⟨rfl, rfl⟩ := hr
        have h1 := hρ x
        rw [hx] at h1
        simp only [rel] at h1
        exact Post.pure hf (c := .int k (k.wrap (0 - n))) (by simp [execOp, h1, Op.unary, Op.intArith]) (by simp [rel])
      · cases hr
    · cases h
  | convert src t x =>
    simp only [aop] at h
    split at h
    · rename_i ds _ k _ _ _ _ k' n hs hd hx
      simp only [Option.some.injEq, Prod.mk.injEq] at h
      obtain ⟨rfl, rfl, rfl⟩ := h
      have h1 := hρ x
      rw [hx] at h1
      simp only [rel] at h1
      have hu := tk_int (Tab.get_ok hT hd) rfl
      obtain ⟨i, u, z, _, hus, _⟩ := tk_info (Tab.get_ok hT hs)
      refine Post.pure hf (c := .int k (k.wrap n)) ?_ (by simp [rel])
      simp only [execOp, h1, convert, Sem.run_bind, run_underlying hu, run_underlying hus, Result.andThen_ok]
      rfl
    · cases h
  | fieldAddr t x i =>
    simp only [aop] at h
    split at h
    · rename_i fs _ _ _ _ b e i' j hd hx
      split at h
      · rename_i o s ag hfs
        obtain ⟨hq, h⟩ := bif_some h
        simp only [Prod.mk.injEq] at h
        obtain ⟨_, rfl, rfl⟩ := h
        have hp : 0 < s := Nat.le_of_ble_eq_true hq
        obtain ⟨fa, hu, hfs', hfo⟩ := tk_struct (Tab.get_ok hT hd) rfl
        rw [hfs', List.getElem?_map] at hfs
        cases hfi : fa.toList[i]? with
        | none => simp [hfi] at hfs
        | some fl =>
          simp only [hfi, Option.map_some, Option.some.injEq, Prod.mk.injEq] at hfs
          obtain ⟨rfl, rfl, _⟩ := hfs
          have hsz := field_size hfo (List.mem_of_getElem? hfi) w
          have h1 := hρ x
          rw [hx] at h1
          simp only [rel] at h1
          obtain ⟨l, hl, h1⟩ := h1
          refine Post.pure hf (c := .pointer (some ⟨l.g, l.o + (i' * e + (j + fl.offset)), none⟩)) ?_ (by simp only [rel]; exact ⟨l, hl, rfl⟩)
          rw [Array.getElem?_toList] at hfi
          simp only [execOp, h1, Instr.fieldAt, Sem.run_bind, run_underlying hu, Result.andThen_ok, hfi, Instr.sureAddr, Sem.run_pure, fieldPlace, hsz]
          rw [if_neg (by omega)]
          simp only [Sem.run_pure, Result.andThen_ok, addr_add]
          congr 5
          omega
      · cases h
    · cases h
  | field t x i =>
    simp only [aop] at h
    split at h
    · rename_i fs _ _ _ _ cs hd hx
      split at h
      · rename_i o s ag hfs
        obtain ⟨hq, h⟩ := bif_some h
        simp only [Prod.mk.injEq] at h
        obtain ⟨_, rfl, rfl⟩ := h
        simp only [Bool.and_eq_true, Bool.or_eq_true] at hq
        have hp : o + s ≤ cs.length ∧ (ag = true ∨ s = 1) := ⟨Nat.le_of_ble_eq_true hq.1, hq.2.imp id Nat.eq_of_beq_eq_true⟩
        obtain ⟨fa, hu, hfs', hfo⟩ := tk_struct (Tab.get_ok hT hd) rfl
        rw [hfs', List.getElem?_map] at hfs
        cases hfi : fa.toList[i]? with
        | none => simp [hfi] at hfs
        | some fl =>
          simp only [hfi, Option.map_some, Option.some.injEq, Prod.mk.injEq] at hfs
          obtain ⟨rfl, rfl, rfl⟩ := hfs
          have hsz := field_size hfo (List.mem_of_getElem? hfi) w
          have hag := field_agg hfo (List.mem_of_getElem? hfi) w
          have h1 := hρ x
          rw [hx] at h1
          simp only [rel] at h1
          obtain ⟨us, h1, h2, h3⟩ := h1
          have hlen := relL_length _ _ h2
          obtain ⟨hfit, hone⟩ := hp
          rw [Array.getElem?_toList] at hfi
          have hrel : relL ι ((range' (sizeOfP P fl.type) fl.offset).map fun m => cs.getD m .dead) ((us.drop fl.offset).take (sizeOfP P fl.type)) := by
            refine relL_of_get _ _ (by simp [range'_length]; omega) fun m v c q1 q2 => ?_
            have hm : m < sizeOfP P fl.type := by
              have := (List.getElem?_eq_some_iff.1 q1).1
              simpa [range'_length] using this
            rw [List.getElem?_map, range'_get _ _ _ hm] at q1
            simp only [Option.map_some, Option.some.injEq] at q1
            rw [List.getElem?_take_of_lt hm, List.getElem?_drop] at q2
            have hx : cs[fl.offset + m]? = some (cs.getD (fl.offset + m) .dead) := by
              rw [List.getD_eq_getElem?_getD, List.getElem?_eq_getElem (by omega)]; rfl
            obtain ⟨c', r1, r2⟩ := relL_get _ _ h2 _ _ hx
            rw [r1] at q2; cases q2
            rw [← q1]; exact r2
          cases hagb : aggOf P fl.type with
          | true =>
            refine Post.pure hf (c := .agg ((us.drop fl.offset).take (sizeOfP P fl.type)).toArray) ?_ ?_
            · simp only [execOp, h1, Instr.field, Sem.run_bind, run_underlying hu, Result.andThen_ok, hfi, asAgg, Sem.run_pure, part, hag, hagb, hsz, if_true]
              congr 3
              apply Array.ext'
              simp
            · simp only [mkAgg, rel]
              exact ⟨_, rfl, hrel, fun u hu => h3 u (List.mem_of_mem_drop (List.mem_of_mem_take hu))⟩
          | false =>
            have h1s : sizeOfP P fl.type = 1 := by simpa [hagb] using hone
            have hx : cs[fl.offset]? = some (cs.getD fl.offset .dead) := by
              rw [List.getD_eq_getElem?_getD, List.getElem?_eq_getElem (by omega)]; rfl
            obtain ⟨c', r1, r2⟩ := relL_get _ _ h2 _ _ hx
            refine Post.pure hf (c := c') ?_ ?_
            · simp only [execOp, h1, Instr.field, Sem.run_bind, run_underlying hu, Result.andThen_ok, hfi, asAgg, Sem.run_pure, part, hag, hagb]
              simp [r1]
            · rw [h1s]; exact r2
      · cases h
    · cases h
  | indexAddr t x ix =>
    simp only [aop] at h
    split at h
    · rename_i te _ _ _ _ hd
      split at h
      · rename_i de hde
        split at h
        · rename_i p' v' hr
          simp only [Option.some.injEq, Prod.mk.injEq] at h
          obtain ⟨rfl, rfl, rfl⟩ := h
          have hu := tk_slice (Tab.get_ok hT hd) rfl
          have hsz := tk_size (Tab.get_ok hT hde) w
          unfold aIndex at hr
          split at hr
          · rename_i k n hix
            split at hr
            · rename_i b e' off len cap hx
              cases hq : Nat.beq e' de.sz with
              | false => simp [hq] at hr
              | true =>
                simp only [hq, cond_true, Option.some.injEq, Prod.mk.injEq] at hr
                obtain ⟨rfl, rfl⟩ := hr
                have he := Nat.eq_of_beq_eq_true hq
                have h1 := hρ x
                have h2 := hρ ix
                rw [hx] at h1
                rw [hix] at h2
                simp only [rel] at h1 h2
                obtain ⟨a, kk, h1, hlk, _, h3⟩ := h1
                obtain ⟨hp1, hp2, _⟩ := hp
                have hp : 0 ≤ n ∧ n < (len : Int) := ⟨hp1, hp2⟩
                obtain ⟨l, hl, rfl, _⟩ := h3 (by omega)
                refine Post.pure hf (c := .pointer (some ⟨l.g, l.o + ((off + n.toNat) * de.sz + 0), none⟩)) ?_ (by simp only [rel]; exact ⟨l, hl, rfl⟩)
                simp only [execOp, h1, h2, Instr.indexAt, Sem.run_bind, asIntOf, Sem.run_pure, Result.andThen_ok, run_underlying hu]
                simp only [hp, and_self, if_true, Sem.run_bind, hsz, Result.andThen_ok, Sem.run_pure, addr_add]
                congr 5
                rw [he, Nat.add_mul]; omega
            · cases hr
          · cases hr
        · cases h
      · cases h
    · cases h
  | slice t x lo hi mx =>
    simp only [aop] at h
    split at h
    · rename_i te _ _ _ _ hd
      split at h
      · rename_i de hde
        split at h
        · rename_i p' v' hr
          simp only [Option.some.injEq, Prod.mk.injEq] at h
          obtain ⟨rfl, rfl, rfl⟩ := h
          have hu := tk_slice (Tab.get_ok hT hd) rfl
          have hsz := tk_size (Tab.get_ok hT hde) w
          unfold aSlice at hr
          split at hr
          · rename_i b e' off len cap hx
            cases hq : Nat.beq e' de.sz with
            | false => simp [hq] at hr
            | true =>
              have he := Nat.eq_of_beq_eq_true hq
              simp only [hq, cond_true] at hr
              have h1 := hρ x
              rw [hx] at h1
              simp only [rel] at h1
              obtain ⟨a, kk, h1, hlk, hkc, h3⟩ := h1
              rw [he] at h3
              split at hr
              · rename_i l h' hl hh hm
                simp only [Option.some.injEq, Prod.mk.injEq] at hr
                obtain ⟨rfl, rfl⟩ := hr
                obtain ⟨p1, p2, p3, _⟩ := hp
                have hmx : mx = none := by cases mx with | none => rfl | some _ => cases hm
                subst hmx
                have hres : rel ι (.sl b de.sz (off + l.toNat) (h' - l).toNat (cap.map (· - l.toNat))) (.slice (if kk = l.toNat then a else a.map (·.add (l.toNat * de.sz))) (h'.toNat - l.toNat) (kk - l.toNat)) := by
                  refine rel_sliced (cap := cap) (k := kk) (by omega) (by omega) (Nat.le_refl _) h3 _ (fun q hq => ?_) (fun hn => ?_) (by omega)
                  · cases hc : cap with
                    | none => simp [hc] at hq
                    | some c => simp only [hc, Option.map_some, Option.some.injEq] at hq; rw [hkc c hc]; exact hq
                  · exact ⟨by cases hc : cap with | none => rfl | some c => simp [hc] at hn, rfl⟩
                refine Post.pure hf (c := .slice (if kk = l.toNat then a else a.map (·.add (l.toNat * de.sz))) (h'.toNat - l.toNat) (kk - l.toNat)) ?_ hres
                rcases intArg_cases hl with ⟨rfl, rfl⟩ | ⟨xl, kl, rfl, hxl⟩ <;> rcases intArg_cases hh with ⟨rfl, rfl⟩ | ⟨xh, kh, rfl, hxh⟩
                · have hln : (len : Int).toNat = len := by omega
                  simp only [execOp, h1, Instr.sliceAt, Instr.slice, Instr.sliceBounds, Option.map_none, Sem.run_bind, run_underlying hu, Result.andThen_ok, Sem.run_pure, hsz, hln]
                  rfl
                · have h5 := hρ xh
                  rw [hxh] at h5
                  simp only [rel] at h5
                  have e1 : (Instr.sliceBound (.int kh h') kk .sliceAcap).run P w = .ok h'.toNat w := run_sliceBound w kh h' kk _ (by omega) (by omega)
                  simp only [execOp, h1, h5, Instr.sliceAt, Instr.slice, Instr.sliceBounds, Option.map_none, Option.map_some, Sem.run_bind, run_underlying hu, Result.andThen_ok, Sem.run_pure, hsz, if_true, e1]
                  rfl
                · have h5 := hρ xl
                  rw [hxl] at h5
                  simp only [rel] at h5
                  have hln : (len : Int).toNat = len := by omega
                  have e1 : (Instr.sliceBound (.int kl l) len .sliceB).run P w = .ok l.toNat w := run_sliceBound w kl l len _ (by omega) (by omega)
                  simp only [execOp, h1, h5, Instr.sliceAt, Instr.slice, Instr.sliceBounds, Option.map_none, Option.map_some, Sem.run_bind, run_underlying hu, Result.andThen_ok, Sem.run_pure, hsz, hln, Option.isSome_none, Bool.false_eq_true, if_false, e1]
                · have h5 := hρ xl
                  rw [hxl] at h5
                  have h6 := hρ xh
                  rw [hxh] at h6
                  simp only [rel] at h5 h6
                  have e1 : (Instr.sliceBound (.int kh h') kk .sliceAcap).run P w = .ok h'.toNat w := run_sliceBound w kh h' kk _ (by omega) (by omega)
                  have e2 : (Instr.sliceBound (.int kl l) h'.toNat .sliceB).run P w = .ok l.toNat w := run_sliceBound w kl l _ _ (by omega) (by omega)
                  simp only [execOp, h1, h5, h6, Instr.sliceAt, Instr.slice, Instr.sliceBounds, Option.map_none, Option.map_some, Sem.run_bind, run_underlying hu, Result.andThen_ok, Sem.run_pure, hsz, Option.isSome_none, Bool.false_eq_true, if_false, if_true, e1, e2]
              · rename_i l h' km m hl hh hm
                obtain ⟨p5, hr⟩ := bif_some hr
                simp only [Prod.mk.injEq] at hr
                obtain ⟨rfl, rfl⟩ := hr
                obtain ⟨p1, p2, p3, p4, _⟩ := hp
                obtain ⟨xm, rfl, hxm⟩ : ∃ xm, mx = some xm ∧ ρ xm = .val (.int km m) := by
                  cases mx with
                  | none => cases hm
                  | some xm => simp only [Option.map_some, Option.some.injEq] at hm; exact ⟨xm, rfl, hm⟩
                have h7 := hρ xm
                rw [hxm] at h7
                simp only [rel] at h7
                have hres : rel ι (.sl b de.sz (off + l.toNat) (h' - l).toNat (some (m - l).toNat)) (.slice (if m.toNat = l.toNat then a else a.map (·.add (l.toNat * de.sz))) (h'.toNat - l.toNat) (m.toNat - l.toNat)) := by
                  refine rel_sliced (cap := cap) (k := kk) (by omega) (by omega) (by omega) h3 _ (fun q hq => ?_) (fun hn => by cases hn) (by omega)
                  simp only [Option.some.injEq] at hq
                  omega
                refine Post.pure hf (c := .slice (if m.toNat = l.toNat then a else a.map (·.add (l.toNat * de.sz))) (h'.toNat - l.toNat) (m.toNat - l.toNat)) ?_ hres
                have em : (Instr.sliceBound (.int km m) kk .slice3Acap).run P w = .ok m.toNat w := run_sliceBound w km m kk _ (by omega) (by omega)
                rcases intArg_cases hh with ⟨rfl, _⟩ | ⟨xh, kh, rfl, hxh⟩
                · simp at p5
                have h6 := hρ xh
                rw [hxh] at h6
                simp only [rel] at h6
                have eh : (Instr.sliceBound (.int kh h') m.toNat .slice3B).run P w = .ok h'.toNat w := run_sliceBound w kh h' _ _ (by omega) (by omega)
                rcases intArg_cases hl with ⟨rfl, rfl⟩ | ⟨xl, kl, rfl, hxl⟩
                · simp only [execOp, h1, h6, h7, Instr.sliceAt, Instr.slice, Instr.sliceBounds, Option.map_none, Option.map_some, Sem.run_bind, run_underlying hu, Result.andThen_ok, Sem.run_pure, hsz, if_true, em, eh]
                  rfl
                · have h5 := hρ xl
                  rw [hxl] at h5
                  simp only [rel] at h5
                  have e2 : (Instr.sliceBound (.int kl l) h'.toNat .slice3C).run P w = .ok l.toNat w := run_sliceBound w kl l _ _ (by omega) (by omega)
                  simp only [execOp, h1, h5, h6, h7, Instr.sliceAt, Instr.slice, Instr.sliceBounds, Option.map_some, Sem.run_bind, run_underlying hu, Result.andThen_ok, Sem.run_pure, hsz, Option.isSome_some, if_true, em, eh, e2]
              · cases hr
          · cases hr
        · cases h
      · cases h
    · cases h
  | extract x i =>
    simp only [aop] at h
    split at h
    · rename_i vs hx
      split at h
      · rename_i v' hv
        simp only [Option.some.injEq, Prod.mk.injEq] at h
        obtain ⟨rfl, rfl, rfl⟩ := h
        have h1 := hρ x
        rw [hx] at h1
        simp only [rel] at h1
        obtain ⟨cs, h1, h2⟩ := h1
        obtain ⟨c, q1, q2⟩ := relL_get _ _ h2 _ _ hv
        exact Post.pure hf (c := c) (by simp [execOp, h1, Instr.extract, q1]) q2
      · cases h
    · cases h
  | makeFunc fn first caps =>
    simp only [aop] at h
    split at h
    · rename_i hfst
      simp only [Option.some.injEq, Prod.mk.injEq] at h
      obtain ⟨rfl, rfl, rfl⟩ := h
      have hfe : first = #[] := by cases first; simp_all
      subst hfe
      refine Post.pure hf (c := .func fn #[] (caps.map ca)) (by simp [execOp, Instr.makeFunc]) ?_
      simp only [rel]
      refine ⟨caps.toList.map ca, by rw [← Array.toList_map], relL_of_get _ _ (by simp) fun i v c h1 h2 => ?_⟩
      rw [List.getElem?_map] at h1 h2
      cases hx : caps.toList[i]? with
      | none => simp [hx] at h1
      | some x => simp only [hx, Option.map_some, Option.some.injEq] at h1 h2; subst h1; subst h2; exact hρ x
    · cases h
  | build t parts => exact op_build hT hρ hf t parts h
  | buildSlice t len parts => exact op_buildSlice hT hρ hf hff t len parts h
  | makeSlice t l c =>
    simp only [aop] at h
    split at h
    · rename_i te _ _ _ _ k1 n k2 m hd hl hc
      split at h
      · rename_i de hde
        obtain ⟨hq, h⟩ := bif_some h
        simp only [Prod.mk.injEq] at h
        obtain ⟨rfl, rfl, rfl⟩ := h
        simp only [Bool.and_eq_true] at hq
        obtain ⟨⟨⟨a5, a6⟩, _⟩, a4⟩ := hq
        have a6 := Nat.eq_of_beq_eq_true a6
        have a4 : 0 < de.bytes := Nat.le_of_ble_eq_true a4
        have h1 := hρ l
        have h2 := hρ c
        rw [hl] at h1
        rw [hc] at h2
        simp only [rel] at h1 h2
        obtain ⟨a1, a2, a3, _⟩ := hp
        have := op_make (P := P) (bs := bs) (ι := ι) (w := w) hT hd rfl hde hf hff k1 k2 n m a1 a2 a3 a4 a5 a6
        simpa only [execOp, h1, h2] using this
      · cases h
    · cases h
  | call c =>
    obtain ⟨callee, args, argTypes⟩ := c
    simp only [aop] at h
    split at h
    · rename_i x t harg hty
      have ha : args = #[x] := by cases args; simp_all
      subst ha
      obtain rfl : argTypes = #[t] := by cases argTypes; simp_all
      split at h
      · rename_i te _ _ _ _ b e off len cap hd hx
        simp only [Option.some.injEq, Prod.mk.injEq] at h
        obtain ⟨rfl, rfl, rfl⟩ := h
        have hu := tk_slice (Tab.get_ok hT hd) rfl
        have h1 := hρ x
        rw [hx] at h1
        simp only [rel] at h1
        obtain ⟨a, k, h1, _⟩ := h1
        refine Post.pure hf (c := .int .i64 len) ?_ (by simp [rel])
        simp [execOp, resolve, invoke, builtin, Builtin.len_, h1, run_underlying hu, goInt]
      · rename_i te _ _ _ _ hd hx
        simp only [Option.some.injEq, Prod.mk.injEq] at h
        obtain ⟨rfl, rfl, rfl⟩ := h
        have hu := tk_slice (Tab.get_ok hT hd) rfl
        have h1 := hρ x
        rw [hx] at h1
        simp only [rel] at h1
        refine Post.pure hf (c := .int .i64 0) ?_ (by simp [rel])
        simp [execOp, resolve, invoke, builtin, Builtin.len_, h1, run_underlying hu, goInt]
      · rename_i kt et _ _ _ _ b hd hx
        split at h
        · rename_i ka ks F hbb
          simp only [Option.some.injEq, Prod.mk.injEq] at h
          obtain ⟨rfl, rfl, rfl⟩ := h
          have hu := tk_map (Tab.get_ok hT hd) rfl
          have h1 := hρ x
          rw [hx] at h1
          simp only [rel] at h1
          obtain ⟨l, hl, h1⟩ := h1
          have hbr := hb b
          rw [hbb] at hbr
          obtain ⟨l', es, clock, h2, h3, h4⟩ := hbr
          rw [hl] at h2; cases h2
          have hlen : es.size = ks.length := by have := congrArg List.length h4.keys; simpa using this
          refine Post.pure hf (c := .int .i64 ks.length) ?_ (by simp [rel])
          simp [execOp, resolve, invoke, builtin, Builtin.len_, h1, run_underlying hu, goInt, MapKept.run_getObj_map (P := P) h3, Result.andThen, hlen]
        · cases h
      · cases h
    · rename_i s x t t' harg hty
      have ha : args = #[s, x] := by cases args; simp_all
      subst ha
      obtain rfl : argTypes = #[t, t'] := by cases argTypes; simp_all
      cases ht : Nat.beq t t' with
      | false => simp [ht] at h
      | true =>
        have := Nat.eq_of_beq_eq_true ht
        subst this
        simp only [ht, cond_true] at h
        split at h
        · rename_i te _ _ _ _ hd
          split at h
          · rename_i de hde
            have hu := tk_slice (Tab.get_ok hT hd) rfl
            have e1 : (execOp ca { dst := dst, op := .call { callee := .builtin .append, args := #[s, x], argTypes := #[t, t] }, type := ty, pos := pos, after := after, guard := guard }).run P w =
                ((do pure (.value (← Builtin.append_ #[t, t] ty #[ca s, ca x])) : Sem Next).run P w) := by
              simp [execOp, resolve, invoke, builtin]
            rw [e1]
            exact op_append hf hff hb hlt (Tab.get_ok hT hde) hu (hρ s) (hρ x) h hp ty
          · cases h
        · cases h
    · rename_i x y harg
      have ha : args = #[x, y] := by cases args; simp_all
      subst ha
      split at h
      · rename_i k a k' b hx hy
        simp only [Option.some.injEq, Prod.mk.injEq] at h
        obtain ⟨rfl, rfl, rfl⟩ := h
        have h1 := hρ x
        have h2 := hρ y
        rw [hx] at h1
        rw [hy] at h2
        simp only [rel] at h1 h2
        refine Post.pure hf (c := .int k (if b > a then b else a)) ?_ (by simp [rel])
        simp [execOp, resolve, invoke, builtin, Builtin.max_, Builtin.max2, h1, h2]
      · cases h
    · rename_i x y harg
      have ha : args = #[x, y] := by cases args; simp_all
      subst ha
      split at h
      · rename_i k a k' b hx hy
        simp only [Option.some.injEq, Prod.mk.injEq] at h
        obtain ⟨rfl, rfl, rfl⟩ := h
        have h1 := hρ x
        have h2 := hρ y
        rw [hx] at h1
        rw [hy] at h2
        simp only [rel] at h1 h2
        refine Post.pure hf (c := .int k (if b < a then b else a)) ?_ (by simp [rel])
        simp [execOp, resolve, invoke, builtin, Builtin.min_, Builtin.min2, h1, h2]
      · cases h
    · cases h
  | _ => simp [aop] at h

end
end Go.Vx

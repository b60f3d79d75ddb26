/- Lemmas of a small executor for the model, and contracts of functions, used for the law that this claim proves. No condition. -/
import Derived.Test.YtodbfpjjahpahaaDoorBW1
import Derived.Laws.StructEq
import Derived.Laws.Pointers
import Derived.Laws.Cover3
set_option linter.unusedSimpArgs false
set_option linter.unusedVariables false
namespace Go.Vx
variable {P : Program}
section
variable {ι : Lay} {bs : Nat -> Blk} {f f' : Nat} {w : World}
theorem c2a {x y : AV} {cx cy : Value} (hx : rel ι x cx) (hy : rel ι y cy) (t : Bool) : rel ι (match t with | true => x | false => y) (if t then cx else cy) := by
  cases t <;> simpa
theorem a8o {fa : Array Field} (hfo : a3o P (.struct fa) = true) {fl : Field} (h : fl ∈ fa.toList) (w : World) : (sizeOf fl.type).run P w = .ok (a2v P fl.type) w := by
  simp only [a3o, List.all_eq_true, Bool.and_eq_true] at hfo
  have := (hfo fl h).1
  cases hi : P.info? fl.type with
  | none => simp [hi] at this
  | some i => simp [sizeOf, typeInfo, hi, a2v]
theorem c0z {fa : Array Field} (hfo : a3o P (.struct fa) = true) {fl : Field} (h : fl ∈ fa.toList) (w : World) : (isAgg fl.type).run P w = .ok (b06 P fl.type) w := by
  simp only [a3o, List.all_eq_true, Bool.and_eq_true] at hfo
  have := (hfo fl h).2
  cases hi : P.underlying fl.type with
  | none => simp [hi] at this
  | some u => simp only [isAgg, Sem.run_bind, run_underlying hi, Result.andThen_ok, b06, hi]; cases u <;> rfl
theorem c17 {op : BinOp} {k : IntKind} {a b : Int} {p : List Prop} {v : AV} (h : c9a op k a b = some (p, v)) (hp : a14 p) (x y : Operand) (t : TypeId) :
    ∃ c, (do eqGuard op t x y (.int k a) (.int k b); binOp op t (.int k a) (.int k b) : Sem Value).run P w = .ok c w /\ rel ι v c := by
  have hg : eqGuard op t x y (.int k a) (.int k b) = pure () := by cases op <;> rfl
  rw [hg]
  cases op <;> simp only [c9a, Option.some.injEq, Prod.mk.injEq] at h <;> first
    | (cases h; done)
    | (obtain ⟨rfl, rfl⟩ := h
       first
       | (refine ⟨_, ?_, by simp only [rel]; rfl⟩
          simp [binOp, Op.intArith, Op.intCmp, Op.intBits]
          done)
       | (refine ⟨_, ?_, by simp only [rel]; rfl⟩
          simp [binOp, Op.intDiv, hp.1]))
theorem b7b {op : BinOp} {k k' : IntKind} {a b : Int} {p : List Prop} {v : AV} (h : c0e op k a b = some (p, v)) (hp : a14 p) (x y : Operand) (t : TypeId) :
    ∃ c, (do eqGuard op t x y (.int k a) (.int k' b); binOp op t (.int k a) (.int k' b) : Sem Value).run P w = .ok c w /\ rel ι v c := by
  have hg : eqGuard op t x y (.int k a) (.int k' b) = pure () := by cases op <;> rfl
  rw [hg]
  cases op <;> simp only [c0e, Option.some.injEq, Prod.mk.injEq] at h <;> first
    | (cases h; done)
    | (obtain ⟨rfl, rfl⟩ := h
       have hb : ¬ b < 0 := by have := hp.1; omega
       refine ⟨_, ?_, by simp only [rel]; rfl⟩
       simp [binOp, Op.shift, hb])
theorem run_equal_bool (a b : Bool) {t : TypeId} (ht : P.underlying t = some .bool) : (Op.equal t (.bool a) (.bool b)).run P w = .ok (a == b) w := by
  have : ∀ d, (Op.equalIn (d + 1) t (.bool a) (.bool b)).run P w = .ok (a == b) w := fun d => by simp [Op.equalIn, run_underlying ht]
  exact this 9999
theorem b19 {v : AV} {c : Value} {b : Bool} (h : toB v = some b) (hr : rel ι v c) : c = .bool b := by
  cases v with
  | sb x => simp only [toB, Option.some.injEq] at h; subst h; simpa [rel] using hr
  | val u => cases u <;> simp only [toB, Option.some.injEq] at h <;> first | (subst h; simpa [rel] using hr) | cases h
  | _ => cases h
theorem c3n {op : BinOp} {a b : Bool} {p : List Prop} {v : AV} (h : c81 op a b = some (p, v)) (x y : Operand) (t : TypeId) (ht : P.underlying t = some .bool) :
    ∃ c, (do eqGuard op t x y (.bool a) (.bool b); binOp op t (.bool a) (.bool b) : Sem Value).run P w = .ok c w /\ rel ι v c := by
  have hg : eqGuard op t x y (.bool a) (.bool b) = pure () := by cases op <;> rfl
  rw [hg]
  cases op <;> simp only [c81, Option.some.injEq, Prod.mk.injEq] at h <;> first
    | (cases h; done)
    | (obtain ⟨rfl, rfl⟩ := h
       refine ⟨_, ?_, by simp only [rel]; rfl⟩
       have e := run_equal_bool (P := P) (w := w) a b ht
       simp [binOp, e])
theorem c5f {k : Bool} {x y : AV} {c d : Value} {b : Bool} (h : eq1 k x y = some b) (hx : rel ι x c) (hy : rel ι y d) {t : TypeId} (ht : (k = true /\ ∃ k', P.underlying t = some (.int k')) \/ (k = false /\ P.underlying t = some .bool)) (n : Nat) :
    (Op.equalIn (n + 1) t c d).run P w = .ok b w := by
  rcases ht with ⟨rfl, k', ht⟩ | ⟨rfl, ht⟩
  · simp only [eq1] at h
    split at h
    · rename_i ka a kb b'
      obtain ⟨h1, rfl⟩ := a02 h
      have := c0k h1
      subst this
      simp only [rel] at hx hy
      subst hx; subst hy
      exact run_equalIn_int w n t _ k' _ _ ht
    · cases h
  · simp only [eq1] at h
    split at h
    · rename_i a b' h1 h2
      simp only [Option.some.injEq] at h
      subst h
      have e1 := b19 h1 hx
      have e2 := b19 h2 hy
      subst e1; subst e2
      exact run_equalIn_bool' w n t _ _ ht
    · cases h
theorem b03 : ∀ (k l : List Bool) (xs ys : List AV) (b : Bool), a19 (k ++ l) xs ys = some b ->
    ∃ x1 x2 y1 y2 b1 b2, xs = x1 ++ x2 /\ ys = y1 ++ y2 /\ x1.length = k.length /\ y1.length = k.length /\ a19 k x1 y1 = some b1 /\ a19 l x2 y2 = some b2 /\ b = (b1 && b2)
  | [], l, xs, ys, b, h => ⟨[], xs, [], ys, true, b, rfl, rfl, rfl, rfl, rfl, h, by simp⟩
  | k :: ks, l, [], ys, b, h => by cases ys <;> simp [a19] at h
  | k :: ks, l, x :: xs, [], b, h => by simp [a19] at h
  | k :: ks, l, x :: xs, y :: ys, b, h => by
    simp only [List.cons_append, a19] at h
    split at h
    · rename_i a b' h1 h2
      simp only [Option.some.injEq] at h
      obtain ⟨x1, x2, y1, y2, b1, b2, rfl, rfl, q1, q2, q3, q4, rfl⟩ := b03 ks l xs ys b' h2
      refine ⟨x :: x1, x2, y :: y1, y2, a && b1, b2, rfl, rfl, by simp [q1], by simp [q2], ?_, q4, by rw [<- h, Bool.and_assoc]⟩
      simp only [a19, h1, q3]
    · cases h
theorem a8m {ι : Lay} : ∀ (x1 x2 : List AV) (cs : List Value), relL ι (x1 ++ x2) cs -> ∃ c1 c2, cs = c1 ++ c2 /\ relL ι x1 c1 /\ relL ι x2 c2 /\ c1.length = x1.length
  | [], x2, cs, h => ⟨[], cs, rfl, rfl, h, rfl⟩
  | x :: x1, x2, cs, h => by
    simp only [List.cons_append, relL] at h
    obtain ⟨c, r, rfl, h1, h2⟩ := h
    obtain ⟨c1, c2, rfl, q1, q2, q3⟩ := a8m x1 x2 r h2
    exact ⟨c :: c1, c2, rfl, ⟨c, c1, rfl, h1, q1⟩, q2, by simp [q3]⟩
def b0p (ag : Bool) (cs : List Value) : Value := match ag with
  | true => .agg cs.toArray
  | false => cs.headD undef
theorem b2y {CS DS : Array Value} {n : Nat} {g : TypeId -> Option (List Bool)}
    (hg : ∀ (t : TypeId) (k : List Bool), g t = some k -> ∃ ag : Bool, (∀ w : World, (isAgg t).run P w = .ok ag w /\ (ag = true -> (sizeOf t).run P w = .ok k.length w)) /\ (ag = false -> k.length = 1) /\
      ∀ (xs ys : List AV) (cs ds : List Value) (b : Bool), a19 k xs ys = some b -> relL ι xs cs -> relL ι ys ds -> (Op.equalIn n t (b0p ag cs) (b0p ag ds)).run P w = .ok b w) :
    ∀ (fs : List Field) (ks : List Bool) (i : Nat) (xs ys : List AV) (cs ds : List Value) (b : Bool), c3g P g fs i = some ks -> a19 ks xs ys = some b -> relL ι xs cs -> relL ι ys ds ->
    CS.toList.drop i = cs -> DS.toList.drop i = ds -> (Op.eqFields n CS DS fs).run P w = .ok b w
  | [], ks, i, xs, ys, cs, ds, b, hk, h, _, _, _, _ => by
    simp only [c3g, Option.some.injEq] at hk
    subst hk
    match xs, ys with
    | [], [] => simp only [a19, Option.some.injEq] at h; subst h; rfl
    | [], _ :: _ => simp [a19] at h
    | _ :: _, [] => simp [a19] at h
    | _ :: _, _ :: _ => simp [a19] at h
  | f :: r, ks, i, xs, ys, cs, ds, b, hk, h, hx, hy, hc, hd => by
    simp only [c3g] at hk
    cases hq : (Nat.beq f.offset i && f.name != "_") with
    | false => rw [hq] at hk; cases hk
    | true =>
      rw [hq] at hk
      simp only [cond_true] at hk
      simp only [Bool.and_eq_true, bne_iff_ne, ne_eq] at hq
      have ho := Nat.eq_of_beq_eq_true hq.1
      split at hk
      · rename_i k hgk
        split at hk
        · rename_i l hl
          simp only [Option.some.injEq] at hk
          subst hk
          obtain ⟨x1, x2, y1, y2, b1, b2, rfl, rfl, q1, q2, q3, q4, rfl⟩ := b03 k l xs ys b h
          obtain ⟨c1, c2, rfl, r1, r2, r3⟩ := a8m x1 x2 cs hx
          obtain ⟨d1, d2, rfl, s1, s2, s3⟩ := a8m y1 y2 ds hy
          obtain ⟨ag, g1, g2, g3⟩ := hg f.type k hgk
          have pt : ∀ (E : Array Value) (e1 e2 : List Value), E.toList.drop i = e1 ++ e2 -> e1.length = k.length -> (part f.type E f.offset).run P w = .ok (b0p ag e1) w := by
            intro E e1 e2 he hlen
            cases ag with
            | true =>
              have : E.extract i (i + k.length) = e1.toArray := by
                apply Array.ext'
                rw [Array.toList_extract, List.extract_eq_take_drop, he]
                simp [<- hlen]
              simp only [part, Sem.run_bind, (g1 w).1, Result.andThen_ok, if_true, (g1 w).2 rfl, Sem.run_pure, ho, this, b0p]
            | false =>
              have h1 := g2 rfl
              match e1, hlen with
              | [u], _ =>
                have : E[i]? = some u := by
                  rw [<- Array.getElem?_toList]
                  have := congrArg (·[0]?) he
                  simpa [List.getElem?_drop] using this
                simp [part, (g1 w).1, ho, this, b0p]
              | [], hl => simp [h1] at hl
              | _ :: _ :: _, hl => simp [h1] at hl
          have e := g3 x1 y1 c1 d1 b1 q3 r1 s1
          have p1 := pt CS c1 c2 hc (by rw [r3, q1])
          have p2 := pt DS d1 d2 hd (by rw [s3, q2])
          have nx : ∀ (E : Array Value) (e1 e2 : List Value), E.toList.drop i = e1 ++ e2 -> e1.length = k.length -> E.toList.drop (i + k.length) = e2 := by
            intro E e1 e2 he hlen
            rw [<- List.drop_drop, he, <- hlen]; simp
          have ih := b2y (n := n) hg r l (i + k.length) x2 y2 c2 d2 b2 hl q4 r2 s2 (nx CS c1 c2 hc (by rw [r3, q1])) (nx DS d1 d2 hd (by rw [s3, q2]))
          simp only [Op.eqFields, ne_eq, hq.2, not_false_eq_true, if_true, Sem.run_bind, p1, p2, e, Result.andThen_ok]
          cases b1 with
          | true => simpa using ih
          | false => simp
        · cases hk
      · cases hk
theorem b6q : ∀ (m n : Nat), m <= n -> ∀ (t : TypeId) (k : List Bool), c4u P m t = some k -> ∃ ag : Bool, (∀ w : World, (isAgg t).run P w = .ok ag w /\ (ag = true -> (sizeOf t).run P w = .ok k.length w)) /\ (ag = false -> k.length = 1) /\
      ∀ (xs ys : List AV) (cs ds : List Value) (b : Bool), a19 k xs ys = some b -> relL ι xs cs -> relL ι ys ds -> (Op.equalIn n t (b0p ag cs) (b0p ag ds)).run P w = .ok b w
  | 0, n, _, t, k, h => by simp [c4u] at h
  | m + 1, 0, hn, t, k, h => by omega
  | m + 1, n + 1, hn, t, k, h => by
    have leaf : ∀ kk : Bool, ((kk = true /\ ∃ k', P.underlying t = some (.int k')) \/ (kk = false /\ P.underlying t = some .bool)) -> k = [kk] -> ∃ ag : Bool, (∀ w : World, (isAgg t).run P w = .ok ag w /\ (ag = true -> (sizeOf t).run P w = .ok k.length w)) /\ (ag = false -> k.length = 1) /\
        ∀ (xs ys : List AV) (cs ds : List Value) (b : Bool), a19 k xs ys = some b -> relL ι xs cs -> relL ι ys ds -> (Op.equalIn (n + 1) t (b0p ag cs) (b0p ag ds)).run P w = .ok b w := by
      intro kk ht hk
      subst hk
      refine ⟨false, fun w => ⟨by rcases ht with ⟨_, k', ht⟩ | ⟨_, ht⟩ <;> simp [isAgg, run_underlying ht], fun h => by cases h⟩, fun _ => rfl, fun xs ys cs ds b hb hx hy => ?_⟩
      match xs, ys with
      | [x], [y] =>
        simp only [a19] at hb
        split at hb
        · rename_i b1 b2 h1 h2
          simp only [Option.some.injEq] at h2 hb
          subst h2 hb
          simp only [relL] at hx hy
          obtain ⟨c, cs', rfl, hx1, rfl⟩ := hx
          obtain ⟨d, ds', rfl, hy1, rfl⟩ := hy
          have e := c5f (P := P) (w := w) h1 hx1 hy1 ht n
          simpa [b0p] using e
        · cases hb
      | [], ys => cases ys <;> simp [a19] at hb
      | x :: x' :: xs, [] => simp [a19] at hb
      | [x], [] => simp [a19] at hb
      | [x], y :: y' :: ys =>
        simp only [a19] at hb
        split at hb
        · rename_i h2; simp at h2
        · cases hb
      | x :: x' :: xs, y :: ys =>
        simp only [a19] at hb
        split at hb
        · rename_i h2; cases ys <;> simp at h2
        · cases hb
    simp only [c4u] at h
    split at h
    · rename_i k' hu
      simp only [Option.some.injEq] at h
      exact leaf true (.inl ⟨rfl, k', hu⟩) h.symm
    · rename_i hu
      simp only [Option.some.injEq] at h
      exact leaf false (.inr ⟨rfl, hu⟩) h.symm
    · rename_i fs hu
      cases hst : P.stoodInHeld t with
      | true => rw [hst] at h; cases h
      | false =>
        rw [hst] at h
        simp only [cond_false] at h
        split at h
        · rename_i l hl
          obtain ⟨hq, h⟩ := a02 h
          subst h
          simp only [Bool.and_eq_true] at hq
          have hsz := Nat.eq_of_beq_eq_true hq.1
          have hinfo : (P.info? t).isSome = true := hq.2
          cases hi : P.info? t with
          | none => rw [hi] at hinfo; cases hinfo
          | some i =>
            refine ⟨true, fun w => ⟨by simp [isAgg, run_underlying hu], fun _ => ?_⟩, (fun h => by cases h), fun xs ys cs ds b hb hx hy => ?_⟩
            · rw [<- hsz]
              simp [sizeOf, typeInfo, hi, a2v]
            · have hf : P.fieldsOf t = fs := by simp [Program.fieldsOf, hu]
              simp only [b0p]
              rw [run_equalIn_struct (P := P) w n t cs.toArray ds.toArray (by rw [hf]; exact hu) hst, hf]
              exact b2y (n := n) (b6q m n (by omega)) fs.toList l 0 xs ys cs ds b hl hb hx hy (by simp) (by simp)
        · cases h
    · cases h
theorem c4r {T : Tab} (hT : a2n P T) {x y : AV} {t : TypeId} {b : Bool} (h : sEq x y (T.get t) = some b) {c d : Value} (hx : rel ι x c) (hy : rel ι y d) {op : BinOp} {p : List Prop} {v : AV} (hs : c8q op b = some (p, v)) (o1 o2 : Operand) :
    ∃ u, (do eqGuard op t o1 o2 c d; binOp op t c d : Sem Value).run P w = .ok u w /\ rel ι v u := by
  have fin : ∀ (hg : (eqGuard op t o1 o2 c d).run P w = .ok () w) (he : (binOp .eql t c d).run P w = .ok (.bool b) w) (hn : (binOp .neq t c d).run P w = .ok (.bool (!b)) w),
      ∃ u, (do eqGuard op t o1 o2 c d; binOp op t c d : Sem Value).run P w = .ok u w /\ rel ι v u := by
    intro hg he hn
    cases op <;> simp only [c8q, Option.some.injEq, Prod.mk.injEq] at hs <;> first
      | (cases hs; done)
      | (obtain ⟨rfl, rfl⟩ := hs
         refine ⟨_, ?_, by simp only [rel]; rfl⟩
         simp only [Sem.run_bind, hg, Result.andThen_ok, he, hn])
  unfold sEq at h
  split at h
  · rename_i xs ys _ _ _ _ _ ks hd
    have htk := Tab.get_ok hT hd
    have he := c7v htk
    simp only at he
    unfold c8f at he
    split at he
    · rename_i fs hu
      cases hq : (!P.stoodInHeld t && !P.eqGuardType P.depth t) with
      | false => rw [hq] at he; cases he
      | true =>
        rw [hq] at he
        simp only [cond_true] at he
        simp only [Bool.and_eq_true, Bool.not_eq_true'] at hq
        simp only [rel] at hx hy
        obtain ⟨cs, rfl, hx1, _⟩ := hx
        obtain ⟨ds, rfl, hy1, _⟩ := hy
        have hf : P.fieldsOf t = fs := by simp [Program.fieldsOf, hu]
        have hr := run_equalIn_struct (P := P) w 9999 t cs.toArray ds.toArray (by rw [hf]; exact hu) hq.1
        rw [hf, b2y (P := P) (w := w) (n := 9999) (b6q 3 9999 (by omega)) fs.toList ks 0 xs ys cs ds b he.symm h hx1 hy1 (by simp) (by simp)] at hr
        refine fin (run_eqGuard_agg w op t o1 o2 _ _ hq.2) ?_ ?_
        · rw [run_eql_struct, hr]; rfl
        · rw [run_neq_struct, hr]; rfl
    · cases he
  · rename_i hd
    simp only [Option.some.injEq] at h
    subst h
    have hu := c34 (Tab.get_ok hT hd) rfl
    simp only [rel] at hx hy
    obtain ⟨l, _, rfl⟩ := hx
    subst hy
    have hp : P.underlying t = some (.pointer (P.pointee t)) := by simp [Program.pointee, hu]
    refine fin (by cases op <;> rfl) ?_ ?_
    · rw [run_eql_pointer_nil w t _ hp]; rfl
    · rw [run_neq_pointer_nil w t _ hp]; rfl
  · rename_i hd
    simp only [Option.some.injEq] at h
    subst h
    have hu := c34 (Tab.get_ok hT hd) rfl
    simp only [rel] at hx hy
    subst hx; subst hy
    have hp : P.underlying t = some (.pointer (P.pointee t)) := by simp [Program.pointee, hu]
    refine fin (by cases op <;> rfl) ?_ ?_
    · rw [run_eql_pointer_nil w t _ hp]; rfl
    · rw [run_neq_pointer_nil w t _ hp]; rfl
  · rename_i hd
    simp only [Option.some.injEq] at h
    subst h
    have hu := a9r (Tab.get_ok hT hd) rfl
    simp only [rel] at hx hy
    obtain ⟨l, _, rfl⟩ := hx
    subst hy
    have hq : (Op.equal t (.map (some l.g)) (.map none)).run P w = .ok false w := by
      have : ∀ n, (Op.equalIn (n + 1) t (.map (some l.g)) (.map none)).run P w = .ok false w := fun n => by simp [Op.equalIn, run_underlying hu]
      exact this 9999
    refine fin (by cases op <;> rfl) ?_ ?_
    · simp [binOp, hq]
    · simp [binOp, hq]
  · rename_i hd
    simp only [Option.some.injEq] at h
    subst h
    have hu := a9r (Tab.get_ok hT hd) rfl
    simp only [rel] at hx hy
    subst hx; subst hy
    have hq : (Op.equal t (.map none) (.map none)).run P w = .ok true w := by
      have : ∀ n, (Op.equalIn (n + 1) t (.map none) (.map none)).run P w = .ok true w := fun n => by simp [Op.equalIn, run_underlying hu]
      exact this 9999
    refine fin (by cases op <;> rfl) ?_ ?_
    · simp [binOp, hq]
    · simp [binOp, hq]
  · cases h
theorem b68 {T : Tab} (hT : a2n P T) {ρ : Operand -> AV} {ca : Operand -> Value} (hρ : ∀ x, rel ι (ρ x) (ca x)) {o : Oper} {p : Bool} {len : Nat} (h : b8j T o.op ρ = some (p, len)) :
    ∃ nb : Bool, (nb = true -> len = 0) /\ ∃ c, (execOp ca o).run P w = .ok (.value c) w /\ rel ι (c7y p nb) c := by
  have fin : ∀ (t e : TypeId) (x y : Operand) (t' : TypeId) (a : Option Addr) (l k : Nat) (op : BinOp) (q : Bool), P.underlying t = some (.slice e) -> ca x = .slice a l k -> ca y = .slice none 0 0 -> ((op = .eql /\ q = true) \/ (op = .neq /\ q = false)) ->
      o.op = .binOp op t x y t' -> ∃ c, (execOp ca o).run P w = .ok (.value c) w /\ rel ι (c7y q a.isNone) c := by
    intro t e x y t' a l k op q hu hx hy hq ho
    have heq := run_equal_slice_nil (P := P) w t e a l k hu
    rcases hq with ⟨rfl, rfl⟩ | ⟨rfl, rfl⟩
    · refine ⟨.bool a.isNone, ?_, by simp [c7y, rel]⟩
      simp [execOp, ho, hx, hy, eqGuard, binOp, heq]
    · refine ⟨.bool (!a.isNone), ?_, by simp [c7y, rel]⟩
      simp [execOp, ho, hx, hy, eqGuard, binOp, heq]
  have val : ∀ x b e off ln cap, ρ x = .sl b e off ln cap -> ∃ a k, ca x = .slice a ln k /\ (a.isNone = true -> ln = 0) := by
    intro x b e off ln cap hx
    have := hρ x
    rw [hx] at this
    simp only [rel] at this
    obtain ⟨a, k, h1, h2, _, h4⟩ := this
    refine ⟨a, k, h1, fun ha => ?_⟩
    rcases Nat.eq_zero_or_pos k with hk | hk
    · omega
    · obtain ⟨l, _, h5, _⟩ := h4 hk
      rw [h5] at ha; cases ha
  unfold b8j at h
  split at h
  · rename_i t x y t' ho
    split at h
    · rename_i e _ _ _ _ b e' off ln cap hd hx hy
      simp only [Option.some.injEq, Prod.mk.injEq] at h
      obtain ⟨rfl, rfl⟩ := h
      obtain ⟨a, k, h1, h2⟩ := val x _ _ _ _ _ hx
      have h3 := hρ y
      rw [hy] at h3
      exact ⟨a.isNone, h2, fin t e x y t' a _ k .eql true (a2r (Tab.get_ok hT hd) rfl) h1 h3 (.inl ⟨rfl, rfl⟩) ho⟩
    · rename_i e _ _ _ _ hd hx hy
      simp only [Option.some.injEq, Prod.mk.injEq] at h
      obtain ⟨rfl, rfl⟩ := h
      have h1 := hρ x
      rw [hx] at h1
      have h3 := hρ y
      rw [hy] at h3
      exact ⟨true, fun _ => rfl, fin t e x y t' none 0 0 .eql true (a2r (Tab.get_ok hT hd) rfl) h1 h3 (.inl ⟨rfl, rfl⟩) ho⟩
    · cases h
  · rename_i t x y t' ho
    split at h
    · rename_i e _ _ _ _ b e' off ln cap hd hx hy
      simp only [Option.some.injEq, Prod.mk.injEq] at h
      obtain ⟨rfl, rfl⟩ := h
      obtain ⟨a, k, h1, h2⟩ := val x _ _ _ _ _ hx
      have h3 := hρ y
      rw [hy] at h3
      exact ⟨a.isNone, h2, fin t e x y t' a _ k .neq false (a2r (Tab.get_ok hT hd) rfl) h1 h3 (.inr ⟨rfl, rfl⟩) ho⟩
    · rename_i e _ _ _ _ hd hx hy
      simp only [Option.some.injEq, Prod.mk.injEq] at h
      obtain ⟨rfl, rfl⟩ := h
      have h1 := hρ x
      rw [hx] at h1
      have h3 := hρ y
      rw [hy] at h3
      exact ⟨true, fun _ => rfl, fin t e x y t' none 0 0 .neq false (a2r (Tab.get_ok hT hd) rfl) h1 h3 (.inr ⟨rfl, rfl⟩) ho⟩
    · cases h
  · cases h
theorem a3h {ρ : Operand -> AV} {o : Option Operand} {d n : Int} (h : b0j (o.map ρ) d = some n) : (o = none /\ n = d) \/ ∃ x k, o = some x /\ ρ x = .val (.int k n) := by
  cases o with
  | none => simp only [Option.map_none, b0j, Option.some.injEq] at h; exact .inl ⟨rfl, h.symm⟩
  | some x =>
    simp only [Option.map_some] at h
    unfold b0j at h
    split at h
    · rename_i h1; cases h1
    · rename_i m k _ h1
      simp only [Option.some.injEq] at h1 h
      subst h
      exact .inr ⟨x, _, rfl, h1⟩
    · cases h
theorem b1h {b e off len : Nat} {cap : Option Nat} {a : Option Addr} {k l h m : Nat} (hlk : h <= m) (hlh : l <= h) (hmk : m <= k) (h3 : 0 < k -> ∃ l, ι b = some l /\ a = some ⟨l.g, l.o + off * e, none⟩ /\ (cap = none -> off + k = l.n)) (cap' : Option Nat)
    (hc : ∀ q, cap' = some q -> m - l = q) (hn : cap' = none -> cap = none /\ m = k) (hlen : len = h - l) :
    rel ι (.sl b e (off + l) len cap') (.slice (if m = l then a else a.map (·.add (l * e))) (h - l) (m - l)) := by
  simp only [rel]
  subst hlen
  refine ⟨_, _, rfl, by omega, hc, fun hk => ?_⟩
  obtain ⟨lc, q1, rfl, q2⟩ := h3 (by omega)
  refine ⟨lc, q1, ?_, fun hcn => ?_⟩
  · rw [if_neg (by omega)]
    simp only [Option.map_some, a34, Nat.add_mul]
    congr 2; omega
  · obtain ⟨e1, e2⟩ := hn hcn
    have := q2 e1
    omega
theorem b3q {t : TypeId} {name : String} {x : FuncId × Nat} (hm : b1g P t name = some x) (a : Addr) (w : World) (n : Nat) :
    (nilAhead (n + 1) t (.pointer (some a)) name).run P w = .ok (some false) w := by
  unfold b1g at hm
  split at hm
  · rename_i i hi
    split at hm
    · rename_i m hmm
      split at hm
      · rename_i g' s hfn hpath
        split at hm
        · rename_i fs hfs
          split at hm
          · rename_i f hff
            split at hm
            · rename_i j fs' hj hfu
              obtain ⟨hq, hm⟩ := a02 hm
              simp only [Bool.and_eq_true] at hq
              simp [nilAhead, typeInfo, hi, hmm, hpath, followBlind, run_underlying hfs, hff, hq.1, hfn]
            · cases hm
          · cases hm
        · cases hm
      · cases hm
    · cases hm
  · cases hm
theorem a7z {T : Tab} (hT : a2n P T) {ρ : Operand -> AV} {ca : Operand -> Value} (hρ : ∀ x, rel ι (ρ x) (ca x)) (hf : ∀ b, f <= b -> b < f' -> ι b = none /\ bs b = .gone)
    (hgl : b7i w) (hb : ∀ b, BR ι w b (bs b)) (hlt : ∀ b l, ι b = some l -> l.g < w.heap.size) {o : Oper} {p : List Prop} {v : AV} {up : List (Nat × Blk)} (h : aop T o.op ρ bs f = some (p, v, up)) (hp : a14 p) (hff : bump o.op f <= f') :
    Post ι bs f f' w ((execOp ca o).run P w) v up := by
  obtain ⟨dst, op, ty, pos, after, guard⟩ := o
  simp only at h hff
  cases op with
  | move x =>
    simp only [aop, Option.some.injEq, Prod.mk.injEq] at h
    obtain ⟨rfl, rfl, rfl⟩ := h
    exact Post.pure hf rfl (hρ x)
  | assign x =>
    simp only [aop, Option.some.injEq, Prod.mk.injEq] at h
    obtain ⟨rfl, rfl, rfl⟩ := h
    exact Post.pure hf rfl (hρ x)
  | pick c a b =>
    simp only [aop] at h
    split at h
    · rename_i t hc
      simp only [Option.some.injEq, Prod.mk.injEq] at h
      obtain ⟨rfl, rfl, rfl⟩ := h
      have hcc := hρ c
      rw [hc] at hcc
      simp only [rel] at hcc
      refine Post.pure hf (c := if t then ca a else ca b) ?_ (c2a (hρ a) (hρ b) t)
      simp [execOp, hcc, asBool]
    · rename_i t hc
      have hcc := hρ c
      rw [hc] at hcc
      simp only [rel] at hcc
      have h1 := hρ a
      have h2 := hρ b
      split at h
      · rename_i x y hx hy
        simp only [Option.some.injEq, Prod.mk.injEq] at h
        obtain ⟨rfl, rfl, rfl⟩ := h
        rw [hx] at h1
        rw [hy] at h2
        simp only [rel] at h1 h2
        refine Post.pure hf (c := .bool (bif t then x else y)) ?_ (by simp [rel])
        cases t <;> simp [execOp, hcc, asBool, h1, h2]
      · rename_i k x k' y hx hy
        have hq := a02 h
        clear h
        obtain ⟨hk, h⟩ := hq
        have := c0k hk
        subst this
        simp only [Prod.mk.injEq] at h
        obtain ⟨rfl, rfl, rfl⟩ := h
        rw [hx] at h1
        rw [hy] at h2
        simp only [rel] at h1 h2
        refine Post.pure hf (c := .int k (bif t then x else y)) ?_ (by simp [rel])
        cases t <;> simp [execOp, hcc, asBool, h1, h2]
      · cases h
    · cases h
  | alloc t =>
    simp only [aop] at h
    split at h
    · rename_i d hd
      have hp : a2a (d.zero.map .val) = true := by
        cases hq : a2a (d.zero.map .val) with
        | true => rfl
        | false => rw [hq] at h; cases h
      rw [hp, cond_true] at h
      have htk := Tab.get_ok hT hd
      obtain ⟨zv, hz1, hz2⟩ := b2f htk w
      have hc := CellsRel.vals ι d.zero hp
      have hcells : zv.cells = d.zero.toArray := by rw [hz2]
      split at h
      · rename_i e n hbig
        simp only [Option.some.injEq, Prod.mk.injEq] at h
        obtain ⟨_, rfl, rfl⟩ := h
        obtain ⟨b1, b2, b3⟩ : n <= 16777216 /\ 0 < e /\ d.zero.length = n * e := by
          unfold c4g at hbig
          split at hbig
          · split at hbig
            · obtain ⟨q, hbig⟩ := a02 hbig
              simp only [Prod.mk.injEq] at hbig
              obtain ⟨rfl, rfl⟩ := hbig
              simp only [Bool.and_eq_true] at q
              exact ⟨Nat.le_of_ble_eq_true q.1.1.2, Nat.le_of_ble_eq_true q.1.2, Nat.eq_of_beq_eq_true q.2⟩
            · cases hbig
          · cases hbig
        have hmx : maxLen = 9223372036854775807 := by decide
        refine a8d (w := w) (w1 := w) hf hff d.zero.toArray t n _ rfl rfl ?_ ?_ ⟨rfl, rfl, rfl, rfl⟩ (c := .pointer (some ⟨w.heap.size, 0, none⟩)) (by simp [execOp, Instr.alloc, newVar, newRow, hz1, hcells])
        · intro ι' w' hι hext hw'
          refine .inr ⟨_, hι, Nat.le_refl _, fun i hi j hj => ?_, fun _ => ⟨by simp only; omega, d.zero.toArray, 0, by simp, hw', by simp only [Nat.zero_add, List.size_toArray]; exact b3⟩⟩
          have hlt : i * e + j < d.zero.length := by
            rw [b3]
            calc i * e + j < i * e + e := by omega
              _ = (i + 1) * e := by rw [Nat.add_mul, Nat.one_mul]
              _ <= n * e := Nat.mul_le_mul_right e (by omega)
          obtain ⟨c, q1, q2, q3⟩ := hc.2 (i * e + j) (.val (d.zero.getD (i * e + j) undef)) (by rw [List.getElem?_map, List.getElem?_eq_getElem hlt, List.getD_eq_getElem?_getD, List.getElem?_eq_getElem hlt]; rfl)
          refine ⟨c, ?_, q2, a2p hext _ _ q3⟩
          simp only [World.cell?, hw', Nat.zero_add]
          simpa using q1
        · intro ι' hι hext
          simp only [rel]
          exact ⟨_, hι, by simp⟩
      simp only [Option.some.injEq, Prod.mk.injEq] at h
      obtain ⟨_, rfl, rfl⟩ := h
      refine a8d (w := w) (w1 := w) hf hff d.zero.toArray t 1 _ rfl rfl ?_ ?_ ⟨rfl, rfl, rfl, rfl⟩ (c := .pointer (some ⟨w.heap.size, 0, none⟩)) (by simp [execOp, Instr.alloc, newVar, newRow, hz1, hcells])
      · intro ι' w' hι hext hw'
        refine ⟨_, _, t, hι, ⟨rfl, Nat.le_refl 1⟩, hw', fun j v hj => ?_⟩
        obtain ⟨c, q1, q2, q3⟩ := hc.2 j v hj
        exact ⟨c, q1, q2, a2p hext _ _ q3⟩
      · intro ι' hι hext
        simp only [rel]
        exact ⟨_, hι, by simp⟩
    · cases h
  | box t x =>
    simp only [aop] at h
    split at h
    · rename_i d hd
      obtain ⟨hp, h⟩ := a02 h
      simp only [Prod.mk.injEq] at h
      obtain ⟨_, rfl, rfl⟩ := h
      obtain ⟨h1, h2⟩ := b0f (hρ x) hp
      refine a8d (w := w) (w1 := w) hf hff (ca x).cells t 1 _ rfl rfl ?_ ?_ ⟨rfl, rfl, rfl, rfl⟩ (by simp [execOp, Instr.box, newVar, newRow]; rfl)
      · intro ι' w' hι hext hw'
        refine ⟨_, (ca x).cells, t, hι, ⟨rfl, Nat.le_refl 1⟩, hw', fun j v hj => ?_⟩
        obtain ⟨c, q1, q2⟩ := a4i _ _ h1 _ _ hj
        exact ⟨c, by simpa using q1, h2 c (List.mem_of_getElem? q1), a2p hext _ _ q2⟩
      · intro ι' hι hext
        simp only [rel]
        exact ⟨_, hι, by simp⟩
    · cases h
  | load t x =>
    simp only [aop] at h
    split at h
    · rename_i d b e i j hd hx
      split at h
      · rename_i p' cs hr
        obtain ⟨hq, h⟩ := a02 h
        simp only [Prod.mk.injEq] at h
        obtain ⟨rfl, rfl, rfl⟩ := h
        have hc := hρ x
        rw [hx] at hc
        refine c5t hT hd hf (hb b) hr hp ?_ hc
        simp only [Bool.or_eq_true] at hq
        exact hq.imp id Nat.eq_of_beq_eq_true
      · cases h
    · rename_i d y i e x0 j u hd hx
      split at h
      · rename_i p' cs hr
        obtain ⟨hq, h⟩ := a02 h
        simp only [Prod.mk.injEq] at h
        obtain ⟨rfl, rfl, rfl⟩ := h
        have hc := hρ x
        rw [hx] at hc
        refine c2y hT hd hf (hb y) hr hp ?_ hc
        simp only [Bool.or_eq_true] at hq
        exact hq.imp id Nat.eq_of_beq_eq_true
      · cases h
    · rename_i _ _ _ _ _ g o' hd hx
      simp only [Option.some.injEq, Prod.mk.injEq] at h
      obtain ⟨rfl, rfl, rfl⟩ := h
      obtain ⟨hp, _⟩ := hp
      have hc := hρ x
      rw [hx] at hc
      simp only [rel] at hc
      have htk := Tab.get_ok hT hd
      have hcell := (hgl g o' ((c10 g).getD o' 0) (by rw [List.getD_eq_getElem?_getD, List.getElem?_eq_getElem hp]; rfl)).1
      refine Post.pure hf (c := .int .i64 ((c10 g).getD o' 0)) ?_ (by simp only [rel])
      have ha : TK.agg (TK.int .i64) = false := rfl
      have := a7h htk
      simp [execOp, hc, Instr.loadAt, Instr.sureAddr, loadVar, this, ha, hcell]
    · cases h
  | store t x y =>
    simp only [aop] at h
    split at h
    · rename_i d b e i j hd hx
      split at h
      · rename_i p' k hr
        obtain ⟨hq, h⟩ := a02 h
        simp only [Prod.mk.injEq] at h
        obtain ⟨rfl, rfl, rfl⟩ := h
        have hc := hρ x
        rw [hx] at hc
        simp only [Bool.and_eq_true] at hq
        exact b25 hT hd hf (hb b) (fun l hl => hlt b l hl) hr hp (Nat.eq_of_beq_eq_true hq.1) hq.2 hc (hρ y)
      · cases h
    · cases h
  | makeMap t r =>
    simp only [aop] at h
    split at h
    · rename_i kt et _ _ _ _ hd
      split at h
      · rename_i ka hka
        simp only [Option.some.injEq, Prod.mk.injEq] at h
        obtain ⟨rfl, rfl, rfl⟩ := h
        exact b77 hf (Nat.lt_of_lt_of_le (Nat.lt_succ_self f) (by simpa [bump] using hff)) t ka (by rfl)
      · cases h
    · cases h
  | mapUpdate t m k x =>
    simp only [aop] at h
    split at h
    · rename_i kt et _ _ _ _ b hd hm
      split at h
      · rename_i ka ks F ka' hbb hka
        split at h
        · rename_i n hn
          obtain ⟨hq, hh⟩ := a02 h
          have := b2u hq
          subst this
          obtain ⟨rfl, rfl, rfl⟩ : [] = p /\ AV.dead = v /\ _ = up := by simpa only [Prod.mk.injEq] using hh
          have hc := hρ m
          rw [hm] at hc
          exact a8w hT (a9r (Tab.get_ok hT hd) rfl) hka hf (hb b) (fun l hl => hlt b l hl) hbb hn hc (hρ k) (hρ x)
        · cases h
      · cases h
    · cases h
  | insert t m k x =>
    simp only [aop] at h
    split at h
    · rename_i kt et _ _ _ _ b hd hm
      split at h
      · rename_i ka ks F ka' hbb hka
        split at h
        · rename_i n hn
          obtain ⟨hq, hh⟩ := a02 h
          have := b2u hq
          subst this
          obtain ⟨rfl, rfl, rfl⟩ : [] = p /\ AV.dead = v /\ _ = up := by simpa only [Prod.mk.injEq] using hh
          have hc := hρ m
          rw [hm] at hc
          exact a8w hT (a9r (Tab.get_ok hT hd) rfl) hka hf (hb b) (fun l hl => hlt b l hl) hbb hn hc (hρ k) (hρ x)
        · cases h
      · cases h
    · cases h
  | nilCheck x =>
    simp only [aop] at h
    split at h
    · rename_i b e i j hx
      simp only [Option.some.injEq, Prod.mk.injEq] at h
      obtain ⟨rfl, rfl, rfl⟩ := h
      have hc := hρ x
      rw [hx] at hc
      refine Post.pure hf (c := ca x) ?_ hc
      simp only [rel] at hc
      obtain ⟨l, _, hc⟩ := hc
      simp [execOp, hc]
    · rename_i g caps hx
      simp only [Option.some.injEq, Prod.mk.injEq] at h
      obtain ⟨rfl, rfl, rfl⟩ := h
      have hc := hρ x
      rw [hx] at hc
      refine Post.pure hf (c := ca x) ?_ hc
      simp only [rel] at hc
      obtain ⟨cs, hc, _⟩ := hc
      simp [execOp, hc]
    · rename_i name t b e i j caps hx
      split at h
      · rename_i e' n g off _ _ _ _ hd
        simp only [Option.some.injEq, Prod.mk.injEq] at h
        obtain ⟨rfl, rfl, rfl⟩ := h
        obtain ⟨hn, _⟩ := hp
        have hn : n = name := hn
        subst hn
        have hc := hρ x
        rw [hx] at hc
        refine Post.pure hf (c := ca x) ?_ hc
        simp only [rel, relL] at hc
        obtain ⟨fs, cs, hc, ⟨c0, r, rfl, ⟨u, rfl, l, hl, rfl⟩, rfl⟩, _⟩ := hc
        have hm := (b12 (Tab.get_ok hT hd) rfl).2
        have hpr : (program : Sem Program).run P w = .ok P w := rfl
        have hna := b3q (P := P) hm ⟨l.g, l.o + (i * e + j), none⟩ w (P.types.size + 99)
        rw [show P.types.size + 99 + 1 = P.types.size + Made.depth from rfl] at hna
        simp [execOp, hc, hpr, hna]
      · cases h
    · cases h
  | binOp op t x y t' =>
    simp only [aop] at h
    split at h
    · rename_i p' v' hr
      simp only [Option.some.injEq, Prod.mk.injEq] at h
      obtain ⟨rfl, rfl, rfl⟩ := h
      unfold c9w at hr
      split at hr
      · rename_i k a k' b hx hy
        cases hsh : c1s op with
        | true =>
          simp only [hsh] at hr
          have h1 := hρ x
          have h2 := hρ y
          rw [hx] at h1
          rw [hy] at h2
          simp only [rel] at h1 h2
          obtain ⟨c, q1, q2⟩ := b7b (P := P) (ι := ι) (w := w) (k' := k') hr hp x y t
          refine Post.pure hf (c := c) ?_ q2
          simp only [execOp, h1, h2]
          simp only [Sem.run_bind] at q1 ⊢
          rw [q1]; rfl
        | false =>
        simp only [hsh] at hr
        cases hk : kEq k k' with
        | false => simp [hk] at hr
        | true =>
          have := c0k hk
          subst this
          simp only [hk, cond_true] at hr
          have h1 := hρ x
          have h2 := hρ y
          rw [hx] at h1
          rw [hy] at h2
          simp only [rel] at h1 h2
          obtain ⟨c, q1, q2⟩ := c17 (P := P) (ι := ι) (w := w) hr hp x y t
          refine Post.pure hf (c := c) ?_ q2
          simp only [execOp, h1, h2]
          simp only [Sem.run_bind] at q1 ⊢
          rw [q1]; rfl
      · cases hr
    · split at h
      · rename_i a b _ _ _ _ _ ha hb' hd
        split at h
        · rename_i p' v' hr
          simp only [Option.some.injEq, Prod.mk.injEq] at h
          obtain ⟨rfl, rfl, rfl⟩ := h
          have h1 := b19 ha (hρ x)
          have h2 := b19 hb' (hρ y)
          obtain ⟨c, q1, q2⟩ := c3n (P := P) (ι := ι) (w := w) hr x y t (c5y (Tab.get_ok hT hd) rfl)
          refine Post.pure hf (c := c) ?_ q2
          simp only [execOp, h1, h2]
          simp only [Sem.run_bind] at q1 ⊢
          rw [q1]; rfl
        · cases h
      · split at h
        · rename_i b hb'
          split at h
          · rename_i p' v' hr
            simp only [Option.some.injEq, Prod.mk.injEq] at h
            obtain ⟨rfl, rfl, rfl⟩ := h
            obtain ⟨c, q1, q2⟩ := c4r (P := P) (ι := ι) (w := w) hT hb' (hρ x) (hρ y) hr x y
            refine Post.pure hf (c := c) ?_ q2
            simp only [execOp]
            simp only [Sem.run_bind] at q1 ⊢
            rw [q1]; rfl
          · cases h
        · cases h
  | unOp op t x =>
    simp only [aop] at h
    split at h
    · rename_i p' v' hr
      simp only [Option.some.injEq, Prod.mk.injEq] at h
      obtain ⟨rfl, rfl, rfl⟩ := h
      unfold aUn at hr
      split at hr
      · rename_i b hx
        simp only [Option.some.injEq, Prod.mk.injEq] at hr
        obtain ⟨rfl, rfl⟩ := hr
        have h1 := hρ x
        rw [hx] at h1
        simp only [rel] at h1
        exact Post.pure hf (c := .bool (!b)) (by simp [execOp, h1, Op.unary]) (by simp [rel])
      · rename_i b hx
        simp only [Option.some.injEq, Prod.mk.injEq] at hr
        obtain ⟨rfl, rfl⟩ := hr
        have h1 := hρ x
        rw [hx] at h1
        simp only [rel] at h1
        exact Post.pure hf (c := .bool (!b)) (by simp [execOp, h1, Op.unary]) (by simp [rel])
      · rename_i k n hx
        simp only [Option.some.injEq, Prod.mk.injEq] at hr
        obtain ⟨rfl, rfl⟩ := hr
        have h1 := hρ x
        rw [hx] at h1
        simp only [rel] at h1
        exact Post.pure hf (c := .int k (k.wrap (0 - n))) (by simp [execOp, h1, Op.unary, Op.intArith]) (by simp [rel])
      · rename_i k n hx
        simp only [Option.some.injEq, Prod.mk.injEq] at hr
        obtain ⟨rfl, rfl⟩ := hr
        have h1 := hρ x
        rw [hx] at h1
        simp only [rel] at h1
        exact Post.pure hf (c := .int k (k.wrap (BitVec.ofInt k.bits (if k.signed then -1 else k.max) ^^^ BitVec.ofInt k.bits n).toNat)) (by simp only [execOp, h1, Op.unary, Op.intBits]; rfl) (by simp only [rel])
      · cases hr
    · cases h
  | convert src t x =>
    simp only [aop] at h
    split at h
    · rename_i ds _ k _ _ _ _ k' n hs hd hx
      simp only [Option.some.injEq, Prod.mk.injEq] at h
      obtain ⟨rfl, rfl, rfl⟩ := h
      have h1 := hρ x
      rw [hx] at h1
      simp only [rel] at h1
      have hu := b6i (Tab.get_ok hT hd) rfl
      obtain ⟨i, u, z, _, hus, _⟩ := a2b (Tab.get_ok hT hs)
      refine Post.pure hf (c := .int k (k.wrap n)) ?_ (by simp [rel])
      simp only [execOp, h1, convert, Sem.run_bind, run_underlying hu, run_underlying hus, Result.andThen_ok]
      rfl
    · cases h
  | fieldAddr t x i =>
    simp only [aop] at h
    split at h
    · rename_i fs _ _ _ _ b e i' j hd hx
      split at h
      · rename_i o s ag hfs
        obtain ⟨hq, h⟩ := a02 h
        simp only [Prod.mk.injEq] at h
        obtain ⟨_, rfl, rfl⟩ := h
        have hp : 0 < s := Nat.le_of_ble_eq_true hq
        obtain ⟨fa, hu, hfs', hfo⟩ := a6i (Tab.get_ok hT hd) rfl
        rw [hfs', List.getElem?_map] at hfs
        cases hfi : fa.toList[i]? with
        | none => simp [hfi] at hfs
        | some fl =>
          simp only [hfi, Option.map_some, Option.some.injEq, Prod.mk.injEq] at hfs
          obtain ⟨rfl, rfl, _⟩ := hfs
          have hsz := a8o hfo (List.mem_of_getElem? hfi) w
          have h1 := hρ x
          rw [hx] at h1
          simp only [rel] at h1
          obtain ⟨l, hl, h1⟩ := h1
          refine Post.pure hf (c := .pointer (some ⟨l.g, l.o + (i' * e + (j + fl.offset)), none⟩)) ?_ (by simp only [rel]; exact ⟨l, hl, rfl⟩)
          rw [Array.getElem?_toList] at hfi
          simp only [execOp, h1, Instr.fieldAt, Sem.run_bind, run_underlying hu, Result.andThen_ok, hfi, Instr.sureAddr, Sem.run_pure, fieldPlace, hsz]
          rw [if_neg (by omega)]
          simp only [Sem.run_pure, Result.andThen_ok, a34]
          congr 5
          omega
      · cases h
    · rename_i fs _ _ _ _ y i' e x0 j u hd hx
      split at h
      · rename_i o s ag hfs
        obtain ⟨hq, h⟩ := a02 h
        simp only [Prod.mk.injEq] at h
        obtain ⟨_, rfl, rfl⟩ := h
        have hp : 0 < s := Nat.le_of_ble_eq_true hq
        obtain ⟨fa, hu, hfs', hfo⟩ := a6i (Tab.get_ok hT hd) rfl
        rw [hfs', List.getElem?_map] at hfs
        cases hfi : fa.toList[i]? with
        | none => simp [hfi] at hfs
        | some fl =>
          simp only [hfi, Option.map_some, Option.some.injEq, Prod.mk.injEq] at hfs
          obtain ⟨rfl, rfl, _⟩ := hfs
          have hsz := a8o hfo (List.mem_of_getElem? hfi) w
          have h1 := hρ x
          rw [hx] at h1
          simp only [rel] at h1
          obtain ⟨g, p0, len, k, hh, h1⟩ := h1
          refine Post.pure hf (c := .pointer (some ⟨g, p0 + (x0 * e + (j + fl.offset)), none⟩)) ?_ (by simp only [rel]; exact ⟨g, p0, len, k, hh, rfl⟩)
          rw [Array.getElem?_toList] at hfi
          simp only [execOp, h1, Instr.fieldAt, Sem.run_bind, run_underlying hu, Result.andThen_ok, hfi, Instr.sureAddr, Sem.run_pure, fieldPlace, hsz]
          rw [if_neg (by omega)]
          simp only [Sem.run_pure, Result.andThen_ok, a34]
          congr 5
          omega
      · cases h
    · cases h
  | field t x i =>
    simp only [aop] at h
    split at h
    · rename_i fs _ _ _ _ cs hd hx
      split at h
      · rename_i o s ag hfs
        obtain ⟨hq, h⟩ := a02 h
        simp only [Prod.mk.injEq] at h
        obtain ⟨_, rfl, rfl⟩ := h
        simp only [Bool.and_eq_true, Bool.or_eq_true] at hq
        have hp : o + s <= cs.length /\ (ag = true \/ s = 1) := ⟨Nat.le_of_ble_eq_true hq.1, hq.2.imp id Nat.eq_of_beq_eq_true⟩
        obtain ⟨fa, hu, hfs', hfo⟩ := a6i (Tab.get_ok hT hd) rfl
        rw [hfs', List.getElem?_map] at hfs
        cases hfi : fa.toList[i]? with
        | none => simp [hfi] at hfs
        | some fl =>
          simp only [hfi, Option.map_some, Option.some.injEq, Prod.mk.injEq] at hfs
          obtain ⟨rfl, rfl, rfl⟩ := hfs
          have hsz := a8o hfo (List.mem_of_getElem? hfi) w
          have hag := c0z hfo (List.mem_of_getElem? hfi) w
          have h1 := hρ x
          rw [hx] at h1
          simp only [rel] at h1
          obtain ⟨us, h1, h2, h3⟩ := h1
          have hlen := a2c _ _ h2
          obtain ⟨hfit, hone⟩ := hp
          rw [Array.getElem?_toList] at hfi
          have hrel : relL ι ((range' (a2v P fl.type) fl.offset).map fun m => cs.getD m .dead) ((us.drop fl.offset).take (a2v P fl.type)) := by
            refine a3u _ _ (by simp [a4k]; omega) fun m v c q1 q2 => ?_
            have hm : m < a2v P fl.type := by
              have := (List.getElem?_eq_some_iff.1 q1).1
              simpa [a4k] using this
            rw [List.getElem?_map, a8b _ _ _ hm] at q1
            simp only [Option.map_some, Option.some.injEq] at q1
            rw [List.getElem?_take_of_lt hm, List.getElem?_drop] at q2
            have hx : cs[fl.offset + m]? = some (cs.getD (fl.offset + m) .dead) := by
              rw [List.getD_eq_getElem?_getD, List.getElem?_eq_getElem (by omega)]; rfl
            obtain ⟨c', r1, r2⟩ := a4i _ _ h2 _ _ hx
            rw [r1] at q2; cases q2
            rw [<- q1]; exact r2
          cases hagb : b06 P fl.type with
          | true =>
            refine Post.pure hf (c := .agg ((us.drop fl.offset).take (a2v P fl.type)).toArray) ?_ ?_
            · simp only [execOp, h1, Instr.field, Sem.run_bind, run_underlying hu, Result.andThen_ok, hfi, asAgg, Sem.run_pure, part, hag, hagb, hsz, if_true]
              congr 3
              apply Array.ext'
              simp
            · simp only [a9b, rel]
              exact ⟨_, rfl, hrel, fun u hu => h3 u (List.mem_of_mem_drop (List.mem_of_mem_take hu))⟩
          | false =>
            have h1s : a2v P fl.type = 1 := by simpa [hagb] using hone
            have hx : cs[fl.offset]? = some (cs.getD fl.offset .dead) := by
              rw [List.getD_eq_getElem?_getD, List.getElem?_eq_getElem (by omega)]; rfl
            obtain ⟨c', r1, r2⟩ := a4i _ _ h2 _ _ hx
            refine Post.pure hf (c := c') ?_ ?_
            · simp only [execOp, h1, Instr.field, Sem.run_bind, run_underlying hu, Result.andThen_ok, hfi, asAgg, Sem.run_pure, part, hag, hagb]
              simp [r1]
            · rw [h1s]; exact r2
      · cases h
    · cases h
  | indexAddr t x ix =>
    simp only [aop] at h
    split at h
    · rename_i te _ _ _ _ hd
      split at h
      · rename_i de hde
        split at h
        · rename_i p' v' hr
          simp only [Option.some.injEq, Prod.mk.injEq] at h
          obtain ⟨rfl, rfl, rfl⟩ := h
          have hu := a2r (Tab.get_ok hT hd) rfl
          have hsz := a3v (Tab.get_ok hT hde) w
          unfold c4d at hr
          split at hr
          · rename_i k n hix
            split at hr
            · rename_i b e' off len cap hx
              cases hq : Nat.beq e' de.sz with
              | false => simp [hq] at hr
              | true =>
                simp only [hq, cond_true, Option.some.injEq, Prod.mk.injEq] at hr
                obtain ⟨rfl, rfl⟩ := hr
                have he := Nat.eq_of_beq_eq_true hq
                have h1 := hρ x
                have h2 := hρ ix
                rw [hx] at h1
                rw [hix] at h2
                simp only [rel] at h1 h2
                obtain ⟨a, kk, h1, hlk, _, h3⟩ := h1
                obtain ⟨hp1, hp2, _⟩ := hp
                have hp : 0 <= n /\ n < (len : Int) := ⟨hp1, hp2⟩
                obtain ⟨l, hl, rfl, _⟩ := h3 (by omega)
                refine Post.pure hf (c := .pointer (some ⟨l.g, l.o + ((off + n.toNat) * de.sz + 0), none⟩)) ?_ (by simp only [rel]; exact ⟨l, hl, rfl⟩)
                simp only [execOp, h1, h2, Instr.indexAt, Sem.run_bind, asIntOf, Sem.run_pure, Result.andThen_ok, run_underlying hu]
                simp only [hp, and_self, if_true, Sem.run_bind, hsz, Result.andThen_ok, Sem.run_pure, a34]
                congr 5
                rw [he, Nat.add_mul]; omega
            · rename_i y i' e' len u hx
              cases hq : Nat.beq e' de.sz with
              | false => simp [hq] at hr
              | true =>
                simp only [hq, cond_true, Option.some.injEq, Prod.mk.injEq] at hr
                obtain ⟨rfl, rfl⟩ := hr
                have he := Nat.eq_of_beq_eq_true hq
                have h1 := hρ x
                have h2 := hρ ix
                rw [hx] at h1
                rw [hix] at h2
                simp only [rel] at h1 h2
                obtain ⟨h1, a, kk, hu', hlk, h3⟩ := h1
                obtain ⟨hp1, hp2, _⟩ := hp
                have hp : 0 <= n /\ n < (len : Int) := ⟨hp1, hp2⟩
                obtain ⟨g, p0, rfl⟩ := h3 (by omega)
                refine Post.pure hf (c := .pointer (some ⟨g, p0 + (n.toNat * de.sz + 0), none⟩)) ?_ (by simp only [rel]; exact ⟨g, p0, len, kk, hu', rfl⟩)
                rw [hu'] at h1
                simp only [execOp, h1, h2, Instr.indexAt, Sem.run_bind, asIntOf, Sem.run_pure, Result.andThen_ok, run_underlying hu]
                simp only [hp, and_self, if_true, Sem.run_bind, hsz, Result.andThen_ok, Sem.run_pure, a34]
                congr 5
            · cases hr
          · cases hr
        · cases h
      · cases h
    · rename_i n te _ _ _ _ hd
      split at h
      · rename_i de b e i k m hde hx hix
        have hu := a7i (Tab.get_ok hT hd) rfl
        have hsz := a3v (Tab.get_ok hT hde) w
        have h1 := hρ x
        have h2 := hρ ix
        rw [hx] at h1
        rw [hix] at h2
        simp only [rel] at h1 h2
        obtain ⟨l, hl, h1⟩ := h1
        have run : 0 <= m /\ m < (n : Int) -> ∀ (o : Nat), o = (i * e + 0) + m.toNat * de.sz -> (execOp ca { dst := dst, op := .indexAddr t x ix, type := ty, pos := pos, after := after, guard := guard }).run P w = .ok (.value (.pointer (some ⟨l.g, l.o + o, none⟩))) w := fun hp o ho => by
          simp only [execOp, h1, h2, Instr.indexAt, Sem.run_bind, asIntOf, Sem.run_pure, Result.andThen_ok, run_underlying hu, Instr.sureAddr]
          simp only [hp, and_self, if_true, Sem.run_bind, hsz, Result.andThen_ok, Sem.run_pure, a34]
          congr 5
          omega
        have hp' : ∀ {q : List Prop}, [0 <= m, m < (n : Int)] = q -> a14 q -> 0 <= m /\ m < (n : Int) := fun e h => by subst e; exact ⟨h.1, h.2.1⟩
        cases hq : Nat.beq e de.sz with
        | true =>
          simp only [hq, cond_true, Option.some.injEq, Prod.mk.injEq] at h
          obtain ⟨e1, rfl, rfl⟩ := h
          have he := Nat.eq_of_beq_eq_true hq
          refine Post.pure hf (run (hp' e1 hp) _ rfl) ?_
          simp only [rel]
          refine ⟨l, hl, ?_⟩
          rw [he, Nat.add_mul, Nat.add_zero, Nat.add_zero]
        | false =>
          simp only [hq, cond_false, Option.some.injEq, Prod.mk.injEq] at h
          obtain ⟨e1, rfl, rfl⟩ := h
          refine Post.pure hf (run (hp' e1 hp) _ rfl) ?_
          simp only [rel]
          refine ⟨l, hl, ?_⟩
          rw [Nat.add_zero, Nat.zero_add]
      · rename_i de g o' k m hde hx hix
        simp only [Option.some.injEq, Prod.mk.injEq] at h
        obtain ⟨rfl, rfl, rfl⟩ := h
        obtain ⟨hp1, hp2, _⟩ := hp
        have hu := a7i (Tab.get_ok hT hd) rfl
        have hsz := a3v (Tab.get_ok hT hde) w
        have h1 := hρ x
        have h2 := hρ ix
        rw [hx] at h1
        rw [hix] at h2
        simp only [rel] at h1 h2
        have hp : 0 <= m /\ m < (n : Int) := ⟨hp1, hp2⟩
        refine Post.pure hf (c := .pointer (some ⟨g, o' + m.toNat * de.sz, none⟩)) ?_ (by simp only [rel])
        simp only [execOp, h1, h2, Instr.indexAt, Sem.run_bind, asIntOf, Sem.run_pure, Result.andThen_ok, run_underlying hu, Instr.sureAddr]
        simp only [hp, and_self, if_true, Sem.run_bind, hsz, Result.andThen_ok, Sem.run_pure, a34]
      · cases h
    · cases h
  | index t x ix =>
    simp only [aop] at h
    split at h
    · rename_i s k n hd hx hix
      simp only [Option.some.injEq, Prod.mk.injEq] at h
      obtain ⟨rfl, rfl, rfl⟩ := h
      have h1 := hρ x
      have h2 := hρ ix
      rw [hx] at h1
      rw [hix] at h2
      simp only [rel] at h1 h2
      have hu := c6z (Tab.get_ok hT hd) rfl
      obtain ⟨hp1, hp2, _⟩ := hp
      have hn : n.toNat < s.size := by omega
      have hs : s[n.toNat]? = some s[n.toNat] := getElem?_pos s n.toNat hn
      refine Post.pure hf (c := .int .u8 (c5b s n.toNat)) ?_ (by simp [rel])
      simp only [execOp, h1, h2, Instr.index, asIntOf, Sem.run_bind, Sem.run_pure, run_underlying hu, Result.andThen_ok, if_pos hp1, hs, c5b]
    · rename_i n te _ _ _ _ cs k m hd hx hix
      split at h
      · rename_i de hde
        obtain ⟨hq, h⟩ := a02 h
        simp only [Prod.mk.injEq] at h
        obtain ⟨rfl, rfl, rfl⟩ := h
        simp only [Bool.and_eq_true, Bool.not_eq_true'] at hq
        obtain ⟨⟨hag, hsz1⟩, hlt⟩ := hq
        have hlt : m.toNat < cs.length := by
          have := Nat.le_of_ble_eq_true hlt
          omega
        have h1 := hρ x
        have h2 := hρ ix
        rw [hx] at h1
        rw [hix] at h2
        simp only [rel] at h1 h2
        obtain ⟨us, h1, h1r, h3⟩ := h1
        have hu := a7i (Tab.get_ok hT hd) rfl
        have hsz := a3v (Tab.get_ok hT hde) w
        have hagg := a7h (Tab.get_ok hT hde) w
        rw [hag] at hagg
        have hs1 := Nat.eq_of_beq_eq_true hsz1
        obtain ⟨hp1, hp2, _⟩ := hp
        have hx : cs[m.toNat]? = some (cs.getD m.toNat .dead) := by
          rw [List.getD_eq_getElem?_getD, List.getElem?_eq_getElem hlt]; rfl
        obtain ⟨c', r1, r2⟩ := a4i _ _ h1r _ _ hx
        refine Post.pure hf (c := c') ?_ r2
        simp only [execOp, h1, h2, Instr.index, asIntOf, Sem.run_bind, Sem.run_pure, run_underlying hu, Result.andThen_ok, if_pos (And.intro hp1 hp2), hsz, hs1, part, hagg]
        simp [r1]
      · cases h
    · cases h
  | slice t x lo hi mx =>
    simp only [aop] at h
    split at h
    · rename_i te _ _ _ _ hd
      split at h
      · rename_i de hde
        split at h
        · rename_i p' v' hr
          simp only [Option.some.injEq, Prod.mk.injEq] at h
          obtain ⟨rfl, rfl, rfl⟩ := h
          have hu := a2r (Tab.get_ok hT hd) rfl
          have hsz := a3v (Tab.get_ok hT hde) w
          unfold c4e at hr
          split at hr
          · rename_i b e' off len cap hx
            cases hq : Nat.beq e' de.sz with
            | false => simp [hq] at hr
            | true =>
              have he := Nat.eq_of_beq_eq_true hq
              simp only [hq, cond_true] at hr
              have h1 := hρ x
              rw [hx] at h1
              simp only [rel] at h1
              obtain ⟨a, kk, h1, hlk, hkc, h3⟩ := h1
              rw [he] at h3
              split at hr
              · rename_i l h' hl hh hm
                simp only [Option.some.injEq, Prod.mk.injEq] at hr
                obtain ⟨rfl, rfl⟩ := hr
                obtain ⟨p1, p2, p3, _⟩ := hp
                have hmx : mx = none := by cases mx with | none => rfl | some _ => cases hm
                subst hmx
                have hres : rel ι (.sl b de.sz (off + l.toNat) (h' - l).toNat (cap.map (· - l.toNat))) (.slice (if kk = l.toNat then a else a.map (·.add (l.toNat * de.sz))) (h'.toNat - l.toNat) (kk - l.toNat)) := by
                  refine b1h (cap := cap) (k := kk) (by omega) (by omega) (Nat.le_refl _) h3 _ (fun q hq => ?_) (fun hn => ?_) (by omega)
                  · cases hc : cap with
                    | none => simp [hc] at hq
                    | some c => simp only [hc, Option.map_some, Option.some.injEq] at hq; rw [hkc c hc]; exact hq
                  · exact ⟨by cases hc : cap with | none => rfl | some c => simp [hc] at hn, rfl⟩
                refine Post.pure hf (c := .slice (if kk = l.toNat then a else a.map (·.add (l.toNat * de.sz))) (h'.toNat - l.toNat) (kk - l.toNat)) ?_ hres
                rcases a3h hl with ⟨rfl, rfl⟩ | ⟨xl, kl, rfl, hxl⟩ <;> rcases a3h hh with ⟨rfl, rfl⟩ | ⟨xh, kh, rfl, hxh⟩
                · have hln : (len : Int).toNat = len := by omega
                  simp only [execOp, h1, Instr.sliceAt, Instr.slice, Instr.sliceBounds, Option.map_none, Sem.run_bind, run_underlying hu, Result.andThen_ok, Sem.run_pure, hsz, hln]
                  rfl
                · have h5 := hρ xh
                  rw [hxh] at h5
                  simp only [rel] at h5
                  have e1 : (Instr.sliceBound (.int kh h') kk .sliceAcap).run P w = .ok h'.toNat w := run_sliceBound w kh h' kk _ (by omega) (by omega)
                  simp only [execOp, h1, h5, Instr.sliceAt, Instr.slice, Instr.sliceBounds, Option.map_none, Option.map_some, Sem.run_bind, run_underlying hu, Result.andThen_ok, Sem.run_pure, hsz, if_true, e1]
                  rfl
                · have h5 := hρ xl
                  rw [hxl] at h5
                  simp only [rel] at h5
                  have hln : (len : Int).toNat = len := by omega
                  have e1 : (Instr.sliceBound (.int kl l) len .sliceB).run P w = .ok l.toNat w := run_sliceBound w kl l len _ (by omega) (by omega)
                  simp only [execOp, h1, h5, Instr.sliceAt, Instr.slice, Instr.sliceBounds, Option.map_none, Option.map_some, Sem.run_bind, run_underlying hu, Result.andThen_ok, Sem.run_pure, hsz, hln, Option.isSome_none, Bool.false_eq_true, if_false, e1]
                · have h5 := hρ xl
                  rw [hxl] at h5
                  have h6 := hρ xh
                  rw [hxh] at h6
                  simp only [rel] at h5 h6
                  have e1 : (Instr.sliceBound (.int kh h') kk .sliceAcap).run P w = .ok h'.toNat w := run_sliceBound w kh h' kk _ (by omega) (by omega)
                  have e2 : (Instr.sliceBound (.int kl l) h'.toNat .sliceB).run P w = .ok l.toNat w := run_sliceBound w kl l _ _ (by omega) (by omega)
                  simp only [execOp, h1, h5, h6, Instr.sliceAt, Instr.slice, Instr.sliceBounds, Option.map_none, Option.map_some, Sem.run_bind, run_underlying hu, Result.andThen_ok, Sem.run_pure, hsz, Option.isSome_none, Bool.false_eq_true, if_false, if_true, e1, e2]
              · rename_i l h' km m hl hh hm
                obtain ⟨p5, hr⟩ := a02 hr
                simp only [Prod.mk.injEq] at hr
                obtain ⟨rfl, rfl⟩ := hr
                obtain ⟨p1, p2, p3, p4, _⟩ := hp
                obtain ⟨xm, rfl, hxm⟩ : ∃ xm, mx = some xm /\ ρ xm = .val (.int km m) := by
                  cases mx with
                  | none => cases hm
                  | some xm => simp only [Option.map_some, Option.some.injEq] at hm; exact ⟨xm, rfl, hm⟩
                have h7 := hρ xm
                rw [hxm] at h7
                simp only [rel] at h7
                have hres : rel ι (.sl b de.sz (off + l.toNat) (h' - l).toNat (some (m - l).toNat)) (.slice (if m.toNat = l.toNat then a else a.map (·.add (l.toNat * de.sz))) (h'.toNat - l.toNat) (m.toNat - l.toNat)) := by
                  refine b1h (cap := cap) (k := kk) (by omega) (by omega) (by omega) h3 _ (fun q hq => ?_) (fun hn => by cases hn) (by omega)
                  simp only [Option.some.injEq] at hq
                  omega
                refine Post.pure hf (c := .slice (if m.toNat = l.toNat then a else a.map (·.add (l.toNat * de.sz))) (h'.toNat - l.toNat) (m.toNat - l.toNat)) ?_ hres
                have em : (Instr.sliceBound (.int km m) kk .slice3Acap).run P w = .ok m.toNat w := run_sliceBound w km m kk _ (by omega) (by omega)
                rcases a3h hh with ⟨rfl, _⟩ | ⟨xh, kh, rfl, hxh⟩
                · simp at p5
                have h6 := hρ xh
                rw [hxh] at h6
                simp only [rel] at h6
                have eh : (Instr.sliceBound (.int kh h') m.toNat .slice3B).run P w = .ok h'.toNat w := run_sliceBound w kh h' _ _ (by omega) (by omega)
                rcases a3h hl with ⟨rfl, rfl⟩ | ⟨xl, kl, rfl, hxl⟩
                · simp only [execOp, h1, h6, h7, Instr.sliceAt, Instr.slice, Instr.sliceBounds, Option.map_none, Option.map_some, Sem.run_bind, run_underlying hu, Result.andThen_ok, Sem.run_pure, hsz, if_true, em, eh]
                  rfl
                · have h5 := hρ xl
                  rw [hxl] at h5
                  simp only [rel] at h5
                  have e2 : (Instr.sliceBound (.int kl l) h'.toNat .slice3C).run P w = .ok l.toNat w := run_sliceBound w kl l _ _ (by omega) (by omega)
                  simp only [execOp, h1, h5, h6, h7, Instr.sliceAt, Instr.slice, Instr.sliceBounds, Option.map_some, Sem.run_bind, run_underlying hu, Result.andThen_ok, Sem.run_pure, hsz, Option.isSome_some, if_true, em, eh, e2]
              · cases hr
          · cases hr
        · cases h
      · cases h
    · rename_i n te _ _ _ _ hd
      split at h
      · rename_i de hde
        split at h
        · rename_i p' v' hr
          simp only [Option.some.injEq, Prod.mk.injEq] at h
          obtain ⟨rfl, rfl, rfl⟩ := h
          have hu := a7i (Tab.get_ok hT hd) rfl
          have hsz := a3v (Tab.get_ok hT hde) w
          unfold c0o at hr
          split at hr
          · rename_i b e' i hx hm
            cases hq : Nat.beq e' de.sz with
            | false => simp [hq] at hr
            | true =>
              have he := Nat.eq_of_beq_eq_true hq
              simp only [hq, cond_true] at hr
              have h1 := hρ x
              rw [hx] at h1
              simp only [rel] at h1
              obtain ⟨l0, hl0, h1⟩ := h1
              split at hr
              · rename_i l h' hl hh
                simp only [Option.some.injEq, Prod.mk.injEq] at hr
                obtain ⟨rfl, rfl⟩ := hr
                obtain ⟨p1, p2, p3, _⟩ := hp
                have hmx : mx = none := by cases mx with | none => rfl | some _ => cases hm
                subst hmx
                have hres : rel ι (.sl b de.sz (i + l.toNat) (h' - l).toNat (some (n - l.toNat))) (.slice (some (if n = l.toNat then ⟨l0.g, l0.o + (i * e' + 0), none⟩ else (⟨l0.g, l0.o + (i * e' + 0), none⟩ : Addr).add (l.toNat * de.sz))) (h'.toNat - l.toNat) (n - l.toNat)) := by
                  simp only [rel]
                  refine ⟨_, _, by rw [show (h' - l).toNat = h'.toNat - l.toNat from by omega], by omega, fun q hq => by simpa using hq, fun hk => ⟨l0, hl0, ?_, fun q => by cases q⟩⟩
                  rw [if_neg (by omega), a34, he, Nat.add_mul, Nat.add_zero, Nat.add_assoc]
                refine Post.pure hf (c := .slice (some (if n = l.toNat then ⟨l0.g, l0.o + (i * e' + 0), none⟩ else (⟨l0.g, l0.o + (i * e' + 0), none⟩ : Addr).add (l.toNat * de.sz))) (h'.toNat - l.toNat) (n - l.toNat)) ?_ hres
                have hln : (n : Int).toNat = n := by omega
                rcases a3h hl with ⟨rfl, rfl⟩ | ⟨xl, kl, rfl, hxl⟩ <;> rcases a3h hh with ⟨rfl, rfl⟩ | ⟨xh, kh, rfl, hxh⟩
                · simp only [execOp, h1, Instr.sliceAt, Instr.sureAddr, Instr.sliceBounds, Option.map_none, Sem.run_bind, run_underlying hu, Result.andThen_ok, Sem.run_pure, hsz, hln]
                  rfl
                · have h5 := hρ xh
                  rw [hxh] at h5
                  simp only [rel] at h5
                  have e1 : (Instr.sliceBound (.int kh h') n .sliceAlen).run P w = .ok h'.toNat w := run_sliceBound w kh h' n _ (by omega) (by omega)
                  simp only [execOp, h1, h5, Instr.sliceAt, Instr.sureAddr, Instr.sliceBounds, Option.map_none, Option.map_some, Sem.run_bind, run_underlying hu, Result.andThen_ok, Sem.run_pure, hsz, Bool.false_eq_true, if_false, e1]
                  rfl
                · have h5 := hρ xl
                  rw [hxl] at h5
                  simp only [rel] at h5
                  have e1 : (Instr.sliceBound (.int kl l) n .sliceB).run P w = .ok l.toNat w := run_sliceBound w kl l n _ (by omega) (by omega)
                  simp only [execOp, h1, h5, Instr.sliceAt, Instr.sureAddr, Instr.sliceBounds, Option.map_none, Option.map_some, Sem.run_bind, run_underlying hu, Result.andThen_ok, Sem.run_pure, hsz, hln, Option.isSome_none, Bool.false_eq_true, if_false, e1]
                · have h5 := hρ xl
                  rw [hxl] at h5
                  have h6 := hρ xh
                  rw [hxh] at h6
                  simp only [rel] at h5 h6
                  have e1 : (Instr.sliceBound (.int kh h') n .sliceAlen).run P w = .ok h'.toNat w := run_sliceBound w kh h' n _ (by omega) (by omega)
                  have e2 : (Instr.sliceBound (.int kl l) h'.toNat .sliceB).run P w = .ok l.toNat w := run_sliceBound w kl l _ _ (by omega) (by omega)
                  simp only [execOp, h1, h5, h6, Instr.sliceAt, Instr.sureAddr, Instr.sliceBounds, Option.map_none, Option.map_some, Sem.run_bind, run_underlying hu, Result.andThen_ok, Sem.run_pure, hsz, Option.isSome_none, Bool.false_eq_true, if_false, e1, e2]
              · cases hr
          · cases hr
        · cases h
      · cases h
    · cases h
  | extract x i =>
    simp only [aop] at h
    split at h
    · rename_i vs hx
      split at h
      · rename_i v' hv
        simp only [Option.some.injEq, Prod.mk.injEq] at h
        obtain ⟨rfl, rfl, rfl⟩ := h
        have h1 := hρ x
        rw [hx] at h1
        simp only [rel] at h1
        obtain ⟨cs, h1, h2⟩ := h1
        obtain ⟨c, q1, q2⟩ := a4i _ _ h2 _ _ hv
        exact Post.pure hf (c := c) (by simp [execOp, h1, Instr.extract, q1]) q2
      · cases h
    · cases h
  | makeInterface t x =>
    simp only [aop] at h
    split at h
    · rename_i e n g off _ _ _ _ hd
      simp only [Option.some.injEq, Prod.mk.injEq] at h
      obtain ⟨rfl, rfl, rfl⟩ := h
      have hu := (b12 (Tab.get_ok hT hd) rfl).1
      refine Post.pure hf (c := .iface t (ca x)) ?_ (by simp only [rel]; exact ⟨_, rfl, hρ x⟩)
      simp [execOp, Instr.makeInterface, run_underlying hu]
    · cases h
  | typeAssert x xt t ok =>
    cases ok with
    | false => simp [aop] at h
    | true =>
    simp only [aop] at h
    split at h
    · rename_i e n g off _ _ z _ u v0 hd hx
      simp only [Option.some.injEq, Prod.mk.injEq] at h
      obtain ⟨rfl, rfl, rfl⟩ := h
      have htk := Tab.get_ok hT hd
      have hu := (b12 htk rfl).1
      have h1 := hρ x
      rw [hx] at h1
      simp only [rel] at h1
      obtain ⟨cv, h1, h2⟩ := h1
      cases hq : Nat.beq u t with
      | true =>
        have := Nat.eq_of_beq_eq_true hq
        subst this
        refine Post.pure hf (c := .tuple #[cv, .bool true]) ?_ ?_
        · simp [execOp, Instr.typeAssert, run_underlying hu, h1]
        · simp only [rel, relL]
          exact ⟨[cv, .bool true], rfl, cv, [.bool true], rfl, h2, .bool true, [], rfl, rfl, rfl⟩
      | false =>
        have hne : ¬ u = t := fun e => by rw [e, Nat.beq_refl] at hq; cases hq
        obtain ⟨i, d0, z0, hi, hu0, hz, _, _, h0, _, _, hzk⟩ := a2b htk
        rw [hu] at hu0; cases hu0
        have hz0 : z0 = z := by
          simp only at h0
          cases z0 <;> simp_all [a89, Value.cells]
        subst hz0
        refine Post.pure hf (c := .tuple #[z0, .bool false]) ?_ ?_
        · simp [execOp, Instr.typeAssert, run_underlying hu, h1, hne, zeroValue, typeInfo, hi, hz]
        · simp only [rel, relL]
          exact ⟨[z0, .bool false], rfl, z0, [.bool false], rfl, rfl, .bool false, [], rfl, rfl, rfl⟩
    · cases h
  | makeFunc fn first caps =>
    simp only [aop] at h
    have key : ∀ l : List Operand, relL ι (l.map ρ) (l.map ca) := fun l => a3u _ _ (by simp) fun i v c h1 h2 => by
      rw [List.getElem?_map] at h1 h2
      cases hx : l[i]? with
      | none => simp [hx] at h1
      | some x => simp only [hx, Option.map_some, Option.some.injEq] at h1 h2; subst h1; subst h2; exact hρ x
    split at h
    · rename_i hfst
      simp only [Option.some.injEq, Prod.mk.injEq] at h
      obtain ⟨rfl, rfl, rfl⟩ := h
      have hfe : first = #[] := by cases first; simp_all
      subst hfe
      refine Post.pure hf (c := .func fn #[] (caps.map ca)) (by simp [execOp, Instr.makeFunc]) ?_
      simp only [rel]
      exact ⟨caps.toList.map ca, by rw [<- Array.toList_map], key _⟩
    · rename_i x r hfst
      simp only [Option.some.injEq, Prod.mk.injEq] at h
      obtain ⟨rfl, rfl, rfl⟩ := h
      have hfe : first = (x :: r).toArray := by cases first; simp_all
      subst hfe
      refine Post.pure hf (c := .func fn ((x :: r).map ca).toArray (caps.map ca)) (by simp [execOp, Instr.makeFunc]) ?_
      simp only [rel]
      exact ⟨(x :: r).map ca, caps.toList.map ca, by rw [show (caps.toList.map ca).toArray = caps.map ca from by rw [<- Array.toList_map]], key _, key _⟩
  | build t parts => exact c18 hT hρ hf t parts h
  | buildSlice t len parts => exact b2j hT hρ hf hff t len parts h
  | makeSlice t l c =>
    simp only [aop] at h
    split at h
    · rename_i te _ _ _ _ k1 n k2 m hd hl hc
      split at h
      · rename_i de hde
        obtain ⟨hq, h⟩ := a02 h
        simp only [Prod.mk.injEq] at h
        obtain ⟨rfl, rfl, rfl⟩ := h
        simp only [Bool.and_eq_true] at hq
        obtain ⟨⟨⟨a5, a6⟩, _⟩, a4⟩ := hq
        have a6 := Nat.eq_of_beq_eq_true a6
        have a4 : 0 < de.bytes := Nat.le_of_ble_eq_true a4
        have h1 := hρ l
        have h2 := hρ c
        rw [hl] at h1
        rw [hc] at h2
        simp only [rel] at h1 h2
        obtain ⟨a1, a2, a3, _⟩ := hp
        have := c0b (P := P) (bs := bs) (ι := ι) (w := w) hT hd rfl hde hf hff k1 k2 n m a1 a2 a3 a4 a5 a6
        simpa only [execOp, h1, h2] using this
      · cases h
    · cases h
  | call c =>
    obtain ⟨callee, args, argTypes⟩ := c
    simp only [aop] at h
    split at h
    · rename_i x t harg hty
      have ha : args = #[x] := by cases args; simp_all
      subst ha
      obtain rfl : argTypes = #[t] := by cases argTypes; simp_all
      split at h
      · rename_i te _ _ _ _ b e off len cap hd hx
        simp only [Option.some.injEq, Prod.mk.injEq] at h
        obtain ⟨rfl, rfl, rfl⟩ := h
        have hu := a2r (Tab.get_ok hT hd) rfl
        have h1 := hρ x
        rw [hx] at h1
        simp only [rel] at h1
        obtain ⟨a, k, h1, _⟩ := h1
        refine Post.pure hf (c := .int .i64 len) ?_ (by simp [rel])
        simp [execOp, resolve, invoke, builtin, Builtin.len_, h1, run_underlying hu, goInt]
      · rename_i te _ _ _ _ y i e len u hd hx
        simp only [Option.some.injEq, Prod.mk.injEq] at h
        obtain ⟨rfl, rfl, rfl⟩ := h
        have hu := a2r (Tab.get_ok hT hd) rfl
        have h1 := hρ x
        rw [hx] at h1
        simp only [rel] at h1
        obtain ⟨h1, a, k, hu', _⟩ := h1
        rw [hu'] at h1
        refine Post.pure hf (c := .int .i64 len) ?_ (by simp [rel])
        simp [execOp, resolve, invoke, builtin, Builtin.len_, h1, run_underlying hu, goInt]
      · rename_i te _ _ _ _ hd hx
        simp only [Option.some.injEq, Prod.mk.injEq] at h
        obtain ⟨rfl, rfl, rfl⟩ := h
        have hu := a2r (Tab.get_ok hT hd) rfl
        have h1 := hρ x
        rw [hx] at h1
        simp only [rel] at h1
        refine Post.pure hf (c := .int .i64 0) ?_ (by simp [rel])
        simp [execOp, resolve, invoke, builtin, Builtin.len_, h1, run_underlying hu, goInt]
      · rename_i kt et _ _ _ _ b hd hx
        split at h
        · rename_i ka ks F hbb
          simp only [Option.some.injEq, Prod.mk.injEq] at h
          obtain ⟨rfl, rfl, rfl⟩ := h
          have hu := a9r (Tab.get_ok hT hd) rfl
          have h1 := hρ x
          rw [hx] at h1
          simp only [rel] at h1
          obtain ⟨l, hl, h1⟩ := h1
          obtain ⟨l', es, clock, h2, h3, h4, _⟩ := a60 hbb (hb b)
          rw [hl] at h2; cases h2
          have hlen : es.size = ks.length := by have := congrArg List.length h4.keys; simpa using this
          refine Post.pure hf (c := .int .i64 ks.length) ?_ (by simp [rel])
          simp [execOp, resolve, invoke, builtin, Builtin.len_, h1, run_underlying hu, goInt, MapKept.run_getObj_map (P := P) h3, Result.andThen, hlen]
        · cases h
      · cases h
    · rename_i s x t t' harg hty
      have ha : args = #[s, x] := by cases args; simp_all
      subst ha
      obtain rfl : argTypes = #[t, t'] := by cases argTypes; simp_all
      cases ht : Nat.beq t t' with
      | false => simp [ht] at h
      | true =>
        have := Nat.eq_of_beq_eq_true ht
        subst this
        simp only [ht, cond_true] at h
        split at h
        · rename_i te _ _ _ _ hd
          split at h
          · rename_i de hde
            have hu := a2r (Tab.get_ok hT hd) rfl
            have e1 : (execOp ca { dst := dst, op := .call { callee := .builtin .append, args := #[s, x], argTypes := #[t, t] }, type := ty, pos := pos, after := after, guard := guard }).run P w =
                ((do pure (.value (<- Builtin.append_ #[t, t] ty #[ca s, ca x])) : Sem Next).run P w) := by
              simp [execOp, resolve, invoke, builtin]
            rw [e1]
            exact b0x hf hff hb hlt (Tab.get_ok hT hde) hu (hρ s) (hρ x) h hp ty
          · cases h
        · cases h
    · rename_i m x t r harg hty
      have ha : args = #[m, x] := by cases args; simp_all
      subst ha
      have ht : argTypes = (t :: r).toArray := by cases argTypes; simp_all
      subst ht
      split at h
      · rename_i kt et _ _ _ _ b hd hm
        split at h
        · rename_i ka ks F ka' hbb hka
          split at h
          · rename_i n hn
            obtain ⟨hq, hh⟩ := a02 h
            have := b2u hq
            subst this
            obtain ⟨rfl, rfl, rfl⟩ : [] = p /\ AV.tup [] = v /\ _ = up := by simpa only [Prod.mk.injEq] using hh
            have hc := hρ m
            rw [hm] at hc
            have hpost := c0r hT (a9r (Tab.get_ok hT hd) rfl) hka hf (hb b) (fun l hl => hlt b l hl) hbb hn hc (hρ x) r ty
            have e1 : (execOp ca { dst := dst, op := .call { callee := .builtin .delete, args := #[m, x], argTypes := (t :: r).toArray }, type := ty, pos := pos, after := after, guard := guard }).run P w =
                ((do pure (.value (<- Builtin.delete_ (t :: r).toArray ty #[ca m, ca x])) : Sem Next).run P w) := by
              simp [execOp, resolve, invoke, builtin]
            rw [e1]
            exact hpost
          · cases h
        · cases h
      · cases h
    · rename_i x y harg
      have ha : args = #[x, y] := by cases args; simp_all
      subst ha
      split at h
      · rename_i k a k' b hx hy
        simp only [Option.some.injEq, Prod.mk.injEq] at h
        obtain ⟨rfl, rfl, rfl⟩ := h
        have h1 := hρ x
        have h2 := hρ y
        rw [hx] at h1
        rw [hy] at h2
        simp only [rel] at h1 h2
        refine Post.pure hf (c := .int k (if b > a then b else a)) ?_ (by simp [rel])
        simp [execOp, resolve, invoke, builtin, Builtin.max_, Builtin.max2, h1, h2]
      · cases h
    · rename_i x y harg
      have ha : args = #[x, y] := by cases args; simp_all
      subst ha
      split at h
      · rename_i k a k' b hx hy
        simp only [Option.some.injEq, Prod.mk.injEq] at h
        obtain ⟨rfl, rfl, rfl⟩ := h
        have h1 := hρ x
        have h2 := hρ y
        rw [hx] at h1
        rw [hy] at h2
        simp only [rel] at h1 h2
        refine Post.pure hf (c := .int k (if b < a then b else a)) ?_ (by simp [rel])
        simp [execOp, resolve, invoke, builtin, Builtin.min_, Builtin.min2, h1, h2]
      · cases h
    · cases h
  | _ => simp [aop] at h
theorem b6m {T : Tab} (hT : a2n P T) {ρ : Operand -> AV} {ca : Operand -> Value} (hρ : ∀ x, rel ι (ρ x) (ca x)) (hf : ∀ b, f <= b -> b < f' -> ι b = none /\ bs b = .gone) (hb : ∀ b, BR ι w b (bs b)) {o : Oper} {d : CpD}
    (h : c8c T o.op ρ bs = some d) (hp : a14 d.p) {k : Nat} (hk : k = min d.n d.len) (hm : d.off + k <= d.m) {F : Nat -> Nat -> AV} (hF : ∀ i, i < d.m -> ∀ j, j < d.e -> F i j = cpF d.off k d.c0 d.c i j) :
    Post ι bs f f' w ((execOp ca o).run P w) (.val (.int .i64 k)) [(d.b, .arr true d.t d.e d.m F)] := by
  unfold c8c at h
  split at h
  · rename_i c ho
    obtain ⟨callee, args, argTypes⟩ := c
    simp only at h
    split at h
    · rename_i s x t r harg hty
      have ha : args = #[s, x] := by cases args; simp_all
      subst ha
      have ht : argTypes = (t :: r).toArray := by cases argTypes; simp_all
      subst ht
      split at h
      · rename_i te _ _ _ _ hd
        split at h
        · rename_i de hde
          have hu := a2r (Tab.get_ok hT hd) rfl
          have e1 : (execOp ca o).run P w = ((do pure (.value (<- Builtin.copy_ (t :: r).toArray o.type #[ca s, ca x])) : Sem Next).run P w) := by
            simp [execOp, ho, resolve, invoke, builtin]
          rw [e1]
          exact c4k hf hb (Tab.get_ok hT hde) hu (hρ s) (hρ x) h hp hk hm hF _ _
        · cases h
      · cases h
    · cases h
  · cases h
end
end Go.Vx
namespace Go.Vx
variable {P : Program}
def look (bs : Nat -> Blk) (x : Nat) : Blk := match bs x with
 | .row b i => (match bs b with
  | .fam _ _ te e _ r _ _ => .arr false te e (r i).1 (r i).2
  | _ => .gone)
 | k => k
theorem a45 {bs : Nat -> Blk} {x b i : Nat} (h : bs x = .row b i) : look bs x = (match bs b with
  | .fam _ _ te e _ r _ _ => .arr false te e (r i).1 (r i).2
  | _ => .gone) := by unfold look; rw [h]
theorem a3b {bs : Nat -> Blk} {x : Nat} (h : ∀ b i, bs x ≠ .row b i) : look bs x = bs x := by
 unfold look
 cases hx : bs x <;> first | rfl | exact absurd hx (h _ _)
theorem a6b {bs : Nat -> Blk} {x : Nat} (h : (look bs x).rw = true) : look bs x = bs x := by
 refine a3b fun b i hx => ?_
 rw [a45 hx] at h
 cases hb : bs b <;> rw [hb] at h <;> cases h
theorem a7k {bs : Nat -> Blk} {x : Nat} (h : bs x = .gone) : look bs x = .gone := by
 rw [a3b (fun b i => by rw [h]; intro e; cases e)]; exact h
theorem WR.look {E : Amb} {ι : Lay} {bs : Nat -> Blk} {w : World} (hw : WR E ι bs w) (x : Nat) : BR ι w x (look bs x) := by
 by_cases hx : ∃ b i, bs x = .row b i
 ·obtain ⟨b, i, hx⟩ := hx
  rw [a45 hx]
  cases hb : bs b with
  | fam rw t te e n r o y =>
   simp only
   obtain ⟨l, h1, _, hq⟩ := hw.als x b i hx
   obtain ⟨hi, ho, a, k, h2, h3, h4⟩ := hq rw t te e n r o y hb
   have hbr := hw.br b
   rw [hb] at hbr
   rcases hbr with ⟨q1, _⟩ | ⟨l', q1, q2, q3, _⟩
   ·omega
   ·rw [h1] at q1; cases q1
    obtain ⟨a', k', s1, s2, s3⟩ := q3.1 i hi ho
    rw [h2] at s1
    simp only [Option.some.injEq, Value.slice.injEq, true_and] at s1
    obtain ⟨rfl, rfl⟩ := s1
    rcases Nat.eq_zero_or_pos k with hk | hk
    ·exact .inl ⟨by omega, h4 hk⟩
    ·obtain ⟨g, p, e1, _, e2, _⟩ := s3 hk
     obtain ⟨lx, f1, f2, f3⟩ := h3 hk
     rw [e1] at f2
     simp only [Option.some.injEq, Addr.mk.injEq, and_true] at f2
     obtain ⟨rfl, rfl⟩ := f2
     exact .inr ⟨lx, f1, by omega, fun y hy j hj => e2 y hy j hj, fun h => by cases h⟩
  | _ => trivial
 ·rw [a3b (fun b i h => hx ⟨b, i, h⟩)]; exact hw.br x
theorem Delta.unlook {ι : Lay} {bs : Nat -> Blk} {f f' : Nat} {w : World} {ι' : Lay} {up : List (Nat × Blk)} {w' : World} (hn : ∀ b, f <= b -> b < f' -> bs b = .gone)
  (h : Delta ι (look bs) f f' w ι' up w') : Delta ι bs f f' w ι' up w' := by
 have gen : ∀ (up : List (Nat × Blk)) (b : Nat), (look bs b = bs b \/ ∃ k, (b, k) ∈ up) -> a1i bs up b = a1i (look bs) up b := by
  intro up b hb
  induction up with
  | nil =>
   rcases hb with hb | ⟨k, hk⟩
   ·exact hb.symm
   ·simp at hk
  | cons q r ih =>
   obtain ⟨y, k⟩ := q
   by_cases e : b = y
   ·subst e; rw [a0p, a0p]
   ·rw [a0w _ _ _ _ e, a0w _ _ _ _ e]
    refine ih (hb.imp id ?_)
    rintro ⟨k', hk'⟩
    simp only [List.mem_cons, Prod.mk.injEq] at hk'
    rcases hk' with ⟨e', _⟩ | hk'
    ·exact absurd e' e
    ·exact ⟨k', hk'⟩
 have same : ∀ b k, (b, k) ∈ up -> a1i bs up b = a1i (look bs) up b := fun b k hk => gen up b (.inr ⟨k, hk⟩)
 have slot : ∀ b, f <= b -> b < f' -> a1i bs up b = a1i (look bs) up b := fun b h1 h2 => gen up b (.inl (by rw [a7k (hn b h1 h2), hn b h1 h2]))
 have rwl : ∀ b, (look bs b).rw = true -> (bs b).rw = true := fun b hb => by rw [<- a6b hb]; exact hb
 have lrw : ∀ b, (bs b).rw = true -> look bs b = bs b := fun b hb => a3b fun c i e => by rw [e] at hb; cases hb
 exact {
  ext := h.ext
  br := fun b ⟨k, hk⟩ => by rw [same b k hk]; exact h.br b ⟨k, hk⟩
  os := h.os
  tape := h.tape
  output := h.output
  size := h.size
  keep := fun g hg hk => h.keep g hg fun b k l' hm hr hl => hk b k l' hm (rwl b hr) hl
  lt := h.lt
  fresh := fun b l' h1 h2 h3 h4 => by
   rw [slot b h1 h2] at h3
   rcases h.fresh b l' h1 h2 h3 h4 with q | ⟨b0, l0, q1, q2, q3, q4, q5⟩
   ·exact .inl q
   ·exact .inr ⟨b0, l0, q1, by rw [same b0 _ q1]; exact q2, rwl b0 q3, q4, q5⟩
  one := fun b b' l1 l2 h1 h2 h3 h4 hne h5 h6 h7 h8 => by
   rw [slot b h1 h2] at h5
   rw [slot b' h3 h4] at h6
   exact h.one b b' l1 l2 h1 h2 h3 h4 hne h5 h6 h7 h8
  rwn := h.rwn
  upr := fun b k hk => (h.upr b k hk).imp id (rwl b)
  pl := fun b k hk => by
   obtain ⟨h1, h2⟩ := h.pl b k hk
   refine ⟨h1, ?_⟩
   rcases h.upr b k hk with q | q
   ·exact .inl q
   ·rcases h2 with h2 | h2
    ·exact .inl h2
    ·rw [a6b q] at h2; exact .inr h2 }
structure Step (E : Amb) (ι : Lay) (bs : Nat -> Blk) (f f' : Nat) (ι' : Lay) (up : List (Nat × Blk)) (w' : World) : Prop where
 ext : ∀ b, b < f \/ f' <= b -> ι' b = ι b
 le : Ext ι ι'
 wr : WR E ι' (a1i bs up) w'
 old : ∀ b k, (b, k) ∈ up -> (f <= b /\ b < f') \/ bs b ≠ .gone
 rwn : ∀ b k, (b, k) ∈ up -> k.live = true -> k.rw = true
theorem DeltaG.step {E : Amb} {ι : Lay} {bs : Nat -> Blk} {f f' : Nat} {w : World} {ι' : Lay} {up : List (Nat × Blk)} {w' : World}
  (hd : DeltaG ι bs f f' w ι' up w') (hn : ∀ b, f <= b -> b < f' -> ι b = none /\ bs b = .gone) (hw : WR E ι bs w) : Step E ι bs f f' ι' up w' where
 ext := hd.ext
 le := (hd.wr hn hw).1
 wr := (hd.wr hn hw).2
 old := fun b k hk => by
  rcases hd.upr b k hk with h | h | ⟨c, i, h⟩
  ·exact .inl h
  ·right; intro e; rw [e] at h; cases h
  ·right; rw [h]; intro e; cases e
 rwn := hd.rwn
theorem Delta.step {E : Amb} {ι : Lay} {bs : Nat -> Blk} {f f' : Nat} {w : World} {ι' : Lay} {up : List (Nat × Blk)} {w' : World}
  (hd : Delta ι bs f f' w ι' up w') (hn : ∀ b, f <= b -> b < f' -> ι b = none /\ bs b = .gone) (hw : WR E ι bs w) : Step E ι bs f f' ι' up w' := (hd.toG hn hw).step hn hw
structure LdD where
 b : Nat
 i : Nat
 e : Nat
 n : Nat
 o : Option Nat
 len : Nat
def c8a (T : Tab) (op : Op) (ev : Operand -> AV) (bs : Nat -> Blk) : Option LdD := match op with
 | .load t x => match T.get t, ev x with
  | some { k := .slice _, .. }, .ptr b 1 i 0 => match bs b with
   | .fam _ _ _ e n r o _ => some ⟨b, i, e, n, o, (r i).1⟩
   | _ => none
  | _, _ => none
 | _ => none
def c8v (o : Option Nat) (i : Nat) : List Prop := match o with
 | none => []
 | some j => [i ≠ j]
theorem c5a {o : Option Nat} {i : Nat} (h : a14 (c8v o i)) : o ≠ some i := by
 cases o with
 | none => intro e; cases e
 | some j => intro e; cases e; exact h.1 rfl
theorem c3j {T : Tab} (hT : a2n P T) {E : Amb} {ι : Lay} {bs : Nat -> Blk} {w : World} (hw : WR E ι bs w) {ev : Operand -> AV} {ca : Operand -> Value} (hev : ∀ x, rel ι (ev x) (ca x)) {f f' : Nat} (hff : f < f')
  (hn : ∀ b, f <= b -> b < f' -> ι b = none /\ bs b = .gone) {o : Oper} {d : LdD} (h : c8a T o.op ev bs = some d) (hi : d.i < d.n) (ho : a14 (c8v d.o d.i)) :
  ∃ c ι', (execOp ca o).run P w = .ok (.value c) w /\ rel ι' (.sl f d.e 0 d.len none) c /\ Step E ι bs f f' ι' [(f, .row d.b d.i)] w := by
 have ho := c5a ho
 unfold c8a at h
 split at h
 ·rename_i t x hop
  split at h
  ·rename_i te0 sz by_ z0 eq0 b i ht hx
   split at h
   ·rename_i rw t' te e n r oo yy hb
    simp only [Option.some.injEq] at h
    subst h
    simp only at hi ho ⊢
    have hc := hev x
    rw [hx] at hc
    simp only [rel] at hc
    obtain ⟨l, hl, hcx⟩ := hc
    have hbr := hw.br b
    rw [hb] at hbr
    rcases hbr with ⟨q1, _⟩ | ⟨l', q1, q2, q3, _⟩
    ·omega
    rw [hl] at q1; cases q1
    obtain ⟨a, k, s1, s2, s3⟩ := q3.1 i hi ho
    have hbf : b ≠ f := fun e => by rw [e, (hn f (Nat.le_refl _) hff).2] at hb; cases hb
    obtain ⟨lx, hlx1, hlx2⟩ : ∃ lx : Option Loc, (0 < k -> ∃ g p, a = some ⟨g, p, none⟩ /\ lx = some ⟨g, p, k⟩) /\ (k = 0 -> lx = none) := by
     rcases Nat.eq_zero_or_pos k with hk | hk
     ·exact ⟨none, fun h => by omega, fun _ => rfl⟩
     ·obtain ⟨g, p, e1, _⟩ := s3 hk
      exact ⟨some ⟨g, p, k⟩, fun _ => ⟨g, p, e1, rfl⟩, fun h => by omega⟩
    let ι' : Lay := fun y => if y = f then lx else ι y
    have hself : ι' f = lx := by simp [ι']
    have hoth : ∀ y, y ≠ f -> ι' y = ι y := fun y hy => by simp [ι', hy]
    have hfg := hn f (Nat.le_refl _) hff
    have hd : DeltaG ι bs f f' w ι' [(f, .row b i)] w := {
     ext := fun y hy => hoth y (by omega)
     br := by
      rintro y ⟨k', hk'⟩
      simp only [List.mem_singleton, Prod.mk.injEq] at hk'
      obtain ⟨rfl, rfl⟩ := hk'
      rw [a0p]; trivial
     os := rfl
     tape := rfl
     output := rfl
     size := Nat.le_refl _
     keep := fun _ _ _ => rfl
     lt := fun y l1 h1 h2 h3 => by
      by_cases hy : y = f
      ·subst hy
       rw [hself] at h3
       rcases Nat.eq_zero_or_pos k with hk | hk
       ·rw [hlx2 hk] at h3; cases h3
       ·obtain ⟨g, p, e1, e2⟩ := hlx1 hk
        rw [e2] at h3; cases h3
        exact hw.flt b g (by rw [hb]; rfl) ⟨l, hl, .inr (by rw [hb]; exact ⟨i, hi, ho, p, _, k, by rw [s1, e1], hk⟩)⟩
      ·rw [hoth y hy, (hn y h1 h2).1] at h3; cases h3
     orig := fun y k' g hk' hlv _ => by
      simp only [List.mem_singleton, Prod.mk.injEq] at hk'
      obtain ⟨rfl, rfl⟩ := hk'
      rw [a0p] at hlv; cases hlv
     one := fun y y' k' k'' g hne hk1 _ hr _ _ _ => by
      simp only [List.mem_singleton, Prod.mk.injEq] at hk1
      obtain ⟨rfl, rfl⟩ := hk1
      rw [a0p] at hr; cases hr
     rwn := fun y k' hk' hlv => by
      simp only [List.mem_singleton, Prod.mk.injEq] at hk'
      rw [hk'.2] at hlv; cases hlv
     upr := fun y k' hk' => by
      simp only [List.mem_singleton, Prod.mk.injEq] at hk'
      exact .inl (by omega)
     als := fun x' b' i' hx' => by
      by_cases hxf : x' = f
      ·subst hxf
       rw [a0p] at hx'
       simp only [Blk.row.injEq] at hx'
       obtain ⟨rfl, rfl⟩ := hx'
       right
       have eb : a1i bs [(x', Blk.row b i)] b = bs b := by rw [a0w _ _ _ _ hbf]; rfl
       refine ⟨l, by rw [hoth _ hbf]; exact hl, by rw [eb, hb]; intro _; rfl, ?_⟩
       intro rw2 t2 te2 e2 n2 r2 o2 y2 hb2
       rw [eb, hb] at hb2
       cases hb2
       refine ⟨hi, ho, a, k, s1, fun hk => ?_, fun hk => by rw [hself]; exact hlx2 hk⟩
       obtain ⟨g, p, e1, e2⟩ := hlx1 hk
       exact ⟨⟨g, p, k⟩, by rw [hself]; exact e2, e1, rfl⟩
      ·by_cases hbf' : b' = f
       ·subst hbf'
        rw [a0w _ _ _ _ hxf] at hx'
        obtain ⟨l', q, _⟩ := hw.als x' b' i' hx'
        rw [(hn b' (Nat.le_refl _) hff).1] at q; cases q
       ·exact .inl ⟨fun k' hk' => by simp at hk'; exact hxf hk'.1, fun k' hk' => by simp at hk'; exact hbf' hk'.1⟩ }
    have htk := Tab.get_ok hT ht
    refine ⟨.slice a (r i).1 k, ι', ?_, ?_, hd.step hn hw⟩
    ·have s1' : w.cell? ⟨l.g, l.o + (i * 1 + 0), none⟩ = some (.slice a (r i).1 k) := by rw [<- s1]; congr 2; omega
     simp [execOp, hop, hcx, Instr.loadAt, Instr.sureAddr, loadVar, a7h htk, TK.agg, s1]
    ·simp only [rel]
     refine ⟨a, k, rfl, s2, (fun m hm => by cases hm), fun hk => ?_⟩
     obtain ⟨g, p, e1, e2⟩ := hlx1 hk
     exact ⟨⟨g, p, k⟩, by rw [hself]; exact e2, by rw [e1]; simp, fun _ => by simp⟩
   ·cases h
  ·cases h
 ·cases h
end Go.Vx
namespace Go.Vx
variable {P : Program}
def setRow (r : Nat -> Nat × (Nat -> Nat -> AV)) (i : Nat) (q : Nat × (Nat -> Nat -> AV)) : Nat -> Nat × (Nat -> Nat -> AV) := fun x => bif Nat.beq x i then q else r x
theorem b3s {a b : Nat} (h : a ≠ b) : Nat.beq a b = false := by
 cases hb : Nat.beq a b
 ·rfl
 ·exact absurd (Nat.eq_of_beq_eq_true hb) h
theorem a2l (r : Nat -> Nat × (Nat -> Nat -> AV)) (i : Nat) (q : Nat × (Nat -> Nat -> AV)) : setRow r i q i = q := by simp [setRow]
theorem a4d (r : Nat -> Nat × (Nat -> Nat -> AV)) {i x : Nat} (q : Nat × (Nat -> Nat -> AV)) (h : x ≠ i) : setRow r i q x = r x := by simp [setRow, b3s h]
theorem a9z (bs : Nat -> Blk) : ∀ (u v : List (Nat × Blk)) (x : Nat), a1i bs (u ++ v) x = a1i (a1i bs v) u x
 | [], _, _ => rfl
 | (b, k) :: u, v, x => by
  by_cases h : x = b
  ·subst h; rw [List.cons_append, a0p, a0p]
  ·rw [List.cons_append, a0w _ _ _ _ h, a0w _ _ _ _ h, a9z bs u v x]
theorem a7l (bs : Nat -> Blk) (u v : List (Nat × Blk)) : a1i bs (u ++ v) = a1i (a1i bs v) u := funext fun x => a9z bs u v x
theorem Step.trans {E : Amb} {ι ι1 ι2 : Lay} {bs : Nat -> Blk} {f f' : Nat} {up0 up1 : List (Nat × Blk)} {w1 w2 : World} (h : Step E ι bs f f' ι1 up0 w1) (k : Step E ι1 (a1i bs up0) f f' ι2 up1 w2) : Step E ι bs f f' ι2 (up1 ++ up0) w2 where
 ext := fun b hb => (k.ext b hb).trans (h.ext b hb)
 le := h.le.trans k.le
 wr := by rw [a7l]; exact k.wr
 old := fun b q hq => by
  rcases List.mem_append.1 hq with hq | hq
  ·rcases k.old b q hq with r | r
   ·exact .inl r
   ·rcases a09 bs up0 b with ⟨k', h1, _⟩ | ⟨_, h2⟩
    ·exact h.old b k' h1
    ·exact .inr (by rw [<- h2]; exact r)
  ·exact h.old b q hq
 rwn := fun b q hq => by
  rcases List.mem_append.1 hq with hq | hq
  ·exact k.rwn b q hq
  ·exact h.rwn b q hq
theorem Step.wide {E : Amb} {ι ι1 : Lay} {bs : Nat -> Blk} {f f1 f' : Nat} {up : List (Nat × Blk)} {w1 : World} (h : Step E ι bs f f1 ι1 up w1) (hf : f1 <= f') : Step E ι bs f f' ι1 up w1 where
 ext := fun b hb => h.ext b (by omega)
 le := h.le
 wr := h.wr
 old := fun b q hq => (h.old b q hq).imp (fun r => ⟨r.1, by omega⟩) id
 rwn := h.rwn
def a8q (bs : Nat -> Blk) (b y : Nat) : List Nat -> List (Nat × Blk)
 | [] => []
 | x :: l => match bs x with
  | .row c _ => bif (Nat.beq c b || Nat.beq c y) && !Nat.beq x y then (x, .gone) :: a8q bs b y l else a8q bs b y l
  | _ => a8q bs b y l
theorem a5c {bs : Nat -> Blk} {b y : Nat} : ∀ {l : List Nat} {x : Nat} {k : Blk}, (x, k) ∈ a8q bs b y l -> k = .gone /\ x ≠ y /\ ∃ c i, bs x = .row c i /\ (c = b \/ c = y)
 | [], x, k, h => by simp [a8q] at h
 | z :: l, x, k, h => by
  unfold a8q at h
  split at h
  ·rename_i c i hz
   cases hc : (Nat.beq c b || Nat.beq c y) && !Nat.beq z y with
   | false => rw [hc] at h; exact a5c h
   | true =>
    rw [hc] at h
    simp only [cond_true, List.mem_cons, Prod.mk.injEq] at h
    rcases h with ⟨rfl, rfl⟩ | h
    ·simp only [Bool.and_eq_true, Bool.or_eq_true, Bool.not_eq_true'] at hc
     refine ⟨rfl, fun e => ?_, c, i, hz, hc.1.imp Nat.eq_of_beq_eq_true Nat.eq_of_beq_eq_true⟩
     rw [e, Nat.beq_refl] at hc; cases hc.2
    ·exact a5c h
  ·exact a5c h
theorem a9f {bs : Nat -> Blk} {b y : Nat} : ∀ {l : List Nat} {x c i : Nat}, x ∈ l -> bs x = .row c i -> (c = b \/ c = y) -> x ≠ y -> (x, .gone) ∈ a8q bs b y l
 | [], x, c, i, h, _, _, _ => by simp at h
 | z :: l, x, c, i, h, hx, hc, hy => by
  unfold a8q
  rcases List.mem_cons.1 h with rfl | h
  ·rw [hx]
   have : ((Nat.beq c b || Nat.beq c y) && !Nat.beq x y) = true := by
    rw [b3s hy]
    rcases hc with rfl | rfl <;> simp
   simp [this]
  ·have := a9f h hx hc hy
   split
   ·rename_i c' i' hz
    cases (Nat.beq c' b || Nat.beq c' y) && !Nat.beq z y
    ·exact this
    ·exact List.mem_cons_of_mem _ this
   ·exact this
theorem a6t (f x : Nat) (h : x < f) : x ∈ range' f 0 := by
 have gen : ∀ (n i : Nat), i <= x -> x < i + n -> x ∈ range' n i := by
  intro n
  induction n with
  | zero => intro i h1 h2; omega
  | succ n ih =>
   intro i h1 h2
   unfold range'
   by_cases e : x = i
   ·subst e; simp
   ·exact List.mem_cons_of_mem _ (ih (i + 1) (by omega) (by omega))
 exact gen f 0 (Nat.zero_le _) (by omega)
def b0o (bs : Nat -> Blk) (f y : Nat) : Option (List (Nat × Blk)) := match bs y with
 | .row b i => match bs b with
  | .fam true t te e n r none _ => some ((y, .arr true te e (r i).1 (r i).2) :: (b, .fam true t te e n r (some i) y) :: a8q bs b y (range' f 0))
  | _ => none
 | _ => none
def c41 (bs : Nat -> Blk) (b : Nat) : Option (List Prop × List (Nat × Blk)) := match bs b with
 | .fam true t te e n r (some i) y => match bs y with
  | .arr true te' e' m c => bif Nat.beq te' te && Nat.beq e' e then some ([(r i).1 <= m], [(y, .gone), (b, .fam true t te e n (setRow r i ((r i).1, c)) none y)]) else none
  | _ => none
 | _ => none
theorem b4b {E : Amb} {ι : Lay} {bs : Nat -> Blk} {f y : Nat} {w : World} (hw : WR E ι bs w) (hf : ∀ b, f <= b -> bs b = .gone) {up : List (Nat × Blk)} (h : b0o bs f y = some up) : Step E ι bs f f ι up w := by
 unfold b0o at h
 split at h
 ·rename_i b i hy
  split at h
  ·rename_i t te e n r y0 hb
   simp only [Option.some.injEq] at h
   have hyb : y ≠ b := fun e => by rw [e, hb] at hy; cases hy
   generalize hkl : a8q bs b y (range' f 0) = kl at h
   subst h
   obtain ⟨l, hl, _, hq⟩ := hw.als y b i hy
   obtain ⟨hi, _, a, k, hc, hk1, hk0⟩ := hq true t te e n r none y0 hb
   have hbr := hw.br b
   rw [hb] at hbr
   rcases hbr with ⟨q1, _⟩ | ⟨l', q1, q2, q3, q4⟩
   ·omega
   rw [hl] at q1; cases q1
   obtain ⟨a', k', s1, s2, s3⟩ := q3.1 i hi (fun e => by cases e)
   rw [hc] at s1
   simp only [Option.some.injEq, Value.slice.injEq, true_and] at s1
   obtain ⟨rfl, rfl⟩ := s1
   obtain ⟨r1, r2, r3⟩ := q4 rfl
   have hin : ∀ ly, ι y = some ly -> 0 < k /\ a5n w l i ly.g := fun ly hly => by
    rcases Nat.eq_zero_or_pos k with hk | hk
    ·rw [hk0 hk] at hly; cases hly
    ·obtain ⟨lx, e1, e2, _⟩ := hk1 hk
     rw [hly] at e1; cases e1
     exact ⟨hk, ly.o, (r i).1, k, by rw [hc, e2], hk⟩
   have hkm : ∀ x q, (x, q) ∈ kl -> q = .gone /\ x ≠ y /\ ∃ c j, bs x = .row c j /\ (c = b \/ c = y) := fun x q hq => a5c (hkl ▸ hq)
   have uy : a1i bs ((y, .arr true te e (r i).1 (r i).2) :: (b, .fam true t te e n r (some i) y) :: kl) y = .arr true te e (r i).1 (r i).2 := a0p ..
   have ub : a1i bs ((y, .arr true te e (r i).1 (r i).2) :: (b, .fam true t te e n r (some i) y) :: kl) b = .fam true t te e n r (some i) y := by
    rw [a0w _ _ _ _ (Ne.symm hyb), a0p]
   have uo : ∀ x, x ≠ y -> x ≠ b -> a1i bs ((y, .arr true te e (r i).1 (r i).2) :: (b, .fam true t te e n r (some i) y) :: kl) x = a1i bs kl x := fun x h1 h2 => by
    rw [a0w _ _ _ _ h1, a0w _ _ _ _ h2]
   have uk : ∀ x q, (x, q) ∈ kl -> x ≠ b /\ a1i bs kl x = .gone := fun x q hq => by
    obtain ⟨_, _, c, j, h2, _⟩ := hkm x q hq
    refine ⟨(fun e => by rw [e, hb] at h2; cases h2), ?_⟩
    rcases a09 bs kl x with ⟨q', s1, s2⟩ | ⟨s1, _⟩
    ·rw [s2]; exact (hkm x q' s1).1
    ·exact absurd hq (s1 q)
   have hmem : ∀ x q, (x, q) ∈ ((y, Blk.arr true te e (r i).1 (r i).2) :: (b, .fam true t te e n r (some i) y) :: kl) -> x = y \/ x = b \/ ((x, q) ∈ kl /\ x ≠ y /\ x ≠ b /\ a1i bs kl x = .gone) := fun x q hq => by
    simp only [List.mem_cons, Prod.mk.injEq] at hq
    rcases hq with ⟨rfl, _⟩ | ⟨rfl, _⟩ | hq
    ·exact .inl rfl
    ·exact .inr (.inl rfl)
    ·exact .inr (.inr ⟨hq, (hkm x q hq).2.1, uk x q hq⟩)
   refine DeltaG.step (w := w) (w' := w) ?_ (fun b h1 h2 => by omega) hw
   exact {
    ext := fun _ _ => rfl
    br := by
     rintro x ⟨q, hq⟩
     rcases hmem x q hq with rfl | rfl | ⟨_, h1, h2, h3⟩
     ·rw [uy]
      rcases Nat.eq_zero_or_pos k with hk | hk
      ·exact .inl ⟨by omega, hk0 hk⟩
      ·obtain ⟨lx, e1, e2, e3⟩ := hk1 hk
       obtain ⟨g, p, g1, g2, g3, g4⟩ := s3 hk
       rw [e2] at g1
       simp only [Option.some.injEq, Addr.mk.injEq, and_true] at g1
       obtain ⟨rfl, rfl⟩ := g1
       obtain ⟨m1, C, qq, m2, m3, m4⟩ := g4 rfl
       exact .inr ⟨lx, e1, by omega, fun x hx j hj => g3 x hx j hj, fun _ => ⟨by omega, C, qq, m2, m3, by rw [e3]; exact m4⟩⟩
     ·rw [ub]
      refine .inr ⟨l, hl, q2, ⟨fun i' hi' ho' => q3.1 i' hi' (fun e => by cases e), fun i' hi' ho' => ?_⟩, fun _ => ⟨r1, r2, fun i' g hi' ho' hI => ?_⟩⟩
      ·simp only [Option.some.injEq] at ho'
       subst ho'
       exact ⟨a, k, hc, s2, hk1⟩
      ·obtain ⟨t1, t2⟩ := r3 i' g hi' (fun e => by cases e) hI
       exact ⟨t1, fun i2 h2 _ hne => t2 i2 h2 (fun e => by cases e) hne⟩
     ·rw [uo x h1 h2, h3]; trivial
    os := rfl
    tape := rfl
    output := rfl
    size := Nat.le_refl _
    keep := fun _ _ _ => rfl
    lt := fun _ _ h1 h2 => by omega
    orig := fun x q g hq hlv hft => by
     refine .inr ⟨b, .fam true t te e n r (some i) y, by simp, by rw [hb]; rfl, ?_⟩
     rcases hmem x q hq with rfl | rfl | ⟨_, h1, h2, h3⟩
     ·rw [uy] at hft
      obtain ⟨ly, h1, rfl⟩ := a4n rfl hft
      exact ⟨l, hl, .inr (by rw [hb]; exact ⟨i, hi, fun e => (by cases e), (hin ly h1).2⟩)⟩
     ·rw [ub] at hft
      obtain ⟨l2, h1, h2⟩ := hft
      refine ⟨l2, h1, h2.imp id ?_⟩
      rintro ⟨i', h3, _, h4⟩
      rw [hb]
      exact ⟨i', h3, fun e => (by cases e), h4⟩
     ·rw [uo x h1 h2, h3] at hlv; cases hlv
    one := by
     have main : ∀ g, foot ι w y (.arr true te e (r i).1 (r i).2) g -> foot ι w b (.fam true t te e n r (some i) y) g -> False := by
      intro g h1 h2
      obtain ⟨ly, hy1, rfl⟩ := a4n rfl h1
      obtain ⟨hk, hI⟩ := hin ly hy1
      obtain ⟨t1, t2⟩ := r3 i ly.g hi (fun e => by cases e) hI
      obtain ⟨l2, h3, h4⟩ := h2
      rw [hl] at h3; cases h3
      rcases h4 with h4 | ⟨i', h5, h6, h7⟩
      ·exact t1 h4
      ·exact t2 i' h5 (fun e => by cases e) (fun e => h6 (by rw [e])) h7
     intro x x' q q' g hne hq hq' hr hlv h1 h2
     rcases hmem x q hq with rfl | rfl | ⟨_, g1, g2, g3⟩
     ·rcases hmem x' q' hq' with rfl | rfl | ⟨_, g1, g2, g3⟩
      ·exact hne rfl
      ·rw [uy] at h1; rw [ub] at h2; exact main g h1 h2
      ·rw [uo x' g1 g2, g3] at hlv; cases hlv
     ·rcases hmem x' q' hq' with rfl | rfl | ⟨_, g1, g2, g3⟩
      ·rw [ub] at h1; rw [uy] at h2; exact main g h2 h1
      ·exact hne rfl
      ·rw [uo x' g1 g2, g3] at hlv; cases hlv
     ·rw [uo x g1 g2, g3] at hr; cases hr
    rwn := fun x q hq hlv => by
     simp only [List.mem_cons, Prod.mk.injEq] at hq
     rcases hq with ⟨_, rfl⟩ | ⟨_, rfl⟩ | hq
     ·rfl
     ·rfl
     ·rw [(hkm x q hq).1] at hlv; cases hlv
    upr := fun x q hq => by
     simp only [List.mem_cons, Prod.mk.injEq] at hq
     rcases hq with ⟨rfl, _⟩ | ⟨rfl, _⟩ | hq
     ·exact .inr (.inr ⟨_, _, hy⟩)
     ·exact .inr (.inl (by rw [hb]; rfl))
     ·obtain ⟨_, _, c, j, h2, _⟩ := hkm x q hq
      exact .inr (.inr ⟨c, j, h2⟩)
    als := fun x c j hx => by
     have hxy : x ≠ y := fun e => by rw [e, uy] at hx; cases hx
     have hxb : x ≠ b := fun e => by rw [e, ub] at hx; cases hx
     have hxk : ∀ q, (x, q) ∉ kl := fun q hq => by rw [uo x hxy hxb, (uk x q hq).2] at hx; cases hx
     have hbx : bs x = .row c j := by
      rw [uo x hxy hxb] at hx
      rcases a09 bs kl x with ⟨q, s1, _⟩ | ⟨_, s2⟩
      ·exact absurd s1 (hxk q)
      ·rw [<- s2]; exact hx
     have hxf : x < f := by
      rcases Nat.lt_or_ge x f with h | h
      ·exact h
      ·rw [hf x h] at hbx; cases hbx
     have hcc : ¬ (c = b \/ c = y) := fun h => hxk .gone (hkl ▸ a9f (a6t f x hxf) hbx h hxy)
     have hx0 : ∀ q, (x, q) ∉ ((y, Blk.arr true te e (r i).1 (r i).2) :: (b, .fam true t te e n r (some i) y) :: kl) := fun q hq => by
      rcases hmem x q hq with h | h | h
      ·exact hxy h
      ·exact hxb h
      ·exact hxk q h.1
     by_cases hck : ∃ q, (c, q) ∈ kl
     ·obtain ⟨q, hq⟩ := hck
      obtain ⟨l2, g1, _⟩ := hw.als x c j hbx
      have g2 : a1i bs ((y, .arr true te e (r i).1 (r i).2) :: (b, .fam true t te e n r (some i) y) :: kl) c = .gone := by
       rw [uo c (fun e => hcc (.inr e)) (fun e => hcc (.inl e)), (uk c q hq).2]
      exact .inr ⟨l2, g1, (by rw [g2]; intro h; cases h), fun _ _ _ _ _ _ _ _ h => by rw [g2] at h; cases h⟩
     ·refine .inl ⟨hx0, fun q hq => ?_⟩
      rcases hmem c q hq with h | h | h
      ·exact hcc (.inr h)
      ·exact hcc (.inl h)
      ·exact hck ⟨q, h.1⟩ }
  ·cases h
 ·cases h
theorem c3k {E : Amb} {ι : Lay} {bs : Nat -> Blk} {f b : Nat} {w : World} (hw : WR E ι bs w) {p : List Prop} {up : List (Nat × Blk)} (h : c41 bs b = some (p, up)) (hp : a14 p) : Step E ι bs f f ι up w := by
 unfold c41 at h
 split at h
 ·rename_i t te e n r i y hb
  split at h
  ·rename_i te' e' m c hy
   obtain ⟨hq, h⟩ := a02 h
   simp only [Bool.and_eq_true] at hq
   obtain rfl := Nat.eq_of_beq_eq_true hq.1
   obtain rfl := Nat.eq_of_beq_eq_true hq.2
   simp only [Prod.mk.injEq] at h
   obtain ⟨rfl, rfl⟩ := h
   obtain ⟨hm, _⟩ := hp
   have hyb : y ≠ b := fun e => by rw [e, hb] at hy; cases hy
   have uy : a1i bs [(y, .gone), (b, .fam true t te' e' n (setRow r i ((r i).1, c)) none y)] y = .gone := a0p ..
   have ub : a1i bs [(y, .gone), (b, .fam true t te' e' n (setRow r i ((r i).1, c)) none y)] b = .fam true t te' e' n (setRow r i ((r i).1, c)) none y := by
    rw [a0w _ _ _ _ (Ne.symm hyb), a0p]
   have uo : ∀ x, x ≠ y -> x ≠ b -> a1i bs [(y, .gone), (b, .fam true t te' e' n (setRow r i ((r i).1, c)) none y)] x = bs x := fun x h1 h2 => by
    rw [a0w _ _ _ _ h1, a0w _ _ _ _ h2]; rfl
   have hbr := hw.br b
   rw [hb] at hbr
   have hbry := hw.br y
   rw [hy] at hbry
   have hIy : ∀ l, ι b = some l -> i < n -> (∀ i, i < n -> some i = some i -> True) -> ∀ g, a5n w l i g -> c91 ι w l i y (r i).1 -> ∃ ly, ι y = some ly /\ ly.g = g := by
    intro l hl hi _ g ⟨p', m', k', e1, e2⟩ ⟨a, k, f1, _, f3⟩
    rw [e1] at f1
    simp only [Option.some.injEq, Value.slice.injEq] at f1
    obtain ⟨rfl, _, rfl⟩ := f1
    obtain ⟨ly, g1, g2, _⟩ := f3 e2
    simp only [Option.some.injEq, Addr.mk.injEq] at g2
    exact ⟨ly, g1, g2.1.symm⟩
   have sep : ∀ ly g, ι y = some ly -> foot ι w b (bs b) g -> ly.g ≠ g := fun ly g hly hft e =>
    hw.sepf b y g (Ne.symm hyb) (by rw [hb]; rfl) (by rw [hy]; rfl) hft (e ▸ a1g hly)
   have ho : ∀ i', some i ≠ some i' ↔ i' ≠ i := fun i' => by simp [eq_comm]
   refine DeltaG.step (w := w) (w' := w) ?_ (fun b h1 h2 => by omega) hw
   exact {
    ext := fun _ _ => rfl
    br := by
     rintro x ⟨q, hq⟩
     simp only [List.mem_cons, Prod.mk.injEq, List.not_mem_nil, or_false] at hq
     rcases hq with ⟨rfl, _⟩ | ⟨rfl, _⟩
     ·rw [uy]; trivial
     ·rw [ub]
      rcases hbr with ⟨q1, q2, q3⟩ | ⟨l, q1, q2, q3, q4⟩
      ·exact .inl ⟨q1, q2, rfl⟩
      obtain ⟨r1, r2, r3⟩ := q4 rfl
      refine .inr ⟨l, q1, q2, ⟨fun i' hi' _ => ?_, fun i' _ h => by cases h⟩, fun _ => ⟨r1, r2, fun i' g hi' _ hI => ?_⟩⟩
      ·by_cases hii : i' = i
       ·subst hii
        rw [a2l]
        obtain ⟨a, k, s1, s2, s3⟩ := q3.2 i' hi' rfl
        refine ⟨a, k, s1, s2, fun hk => ?_⟩
        obtain ⟨ly, t1, t2, t3⟩ := s3 hk
        rcases hbry with ⟨_, u2⟩ | ⟨ly', u1, u2, u3, u4⟩
        ·rw [t1] at u2; cases u2
        rw [t1] at u1; cases u1
        obtain ⟨v1, C, qq, v2, v3, v4⟩ := u4 rfl
        exact ⟨ly.g, ly.o, t2, hw.lt y ly t1, fun x hx j hj => u3 x (by simp only at hx; omega) j hj, fun _ => ⟨by omega, C, qq, v2, v3, by rw [<- t3]; exact v4⟩⟩
       ·rw [a4d _ _ hii]
        exact q3.1 i' hi' ((ho i').2 hii)
      ·by_cases hii : i' = i
       ·subst hii
        obtain ⟨ly, t1, rfl⟩ := hIy l q1 hi' (fun _ _ _ => trivial) g hI (q3.2 i' hi' rfl)
        refine ⟨fun e => sep ly l.g t1 (a1g q1) e.symm, fun i2 h2 _ hne hI2 => sep ly ly.g t1 ⟨l, q1, .inr (by rw [hb]; exact ⟨i2, h2, (ho i2).2 hne, hI2⟩)⟩ rfl⟩
       ·obtain ⟨t1, t2⟩ := r3 i' g hi' ((ho i').2 hii) hI
        refine ⟨t1, fun i2 h2 _ hne hI2 => ?_⟩
        by_cases h3 : i2 = i
        ·subst h3
         obtain ⟨ly, t3, rfl⟩ := hIy l q1 h2 (fun _ _ _ => trivial) g hI2 (q3.2 i2 h2 rfl)
         exact sep ly ly.g t3 ⟨l, q1, .inr (by rw [hb]; exact ⟨i', hi', (ho i').2 hii, hI⟩)⟩ rfl
        ·exact t2 i2 h2 ((ho i2).2 h3) hne hI2
    os := rfl
    tape := rfl
    output := rfl
    size := Nat.le_refl _
    keep := fun _ _ _ => rfl
    lt := fun _ _ h1 h2 => by omega
    orig := fun x q g hq hlv hft => by
     simp only [List.mem_cons, Prod.mk.injEq, List.not_mem_nil, or_false] at hq
     rcases hq with ⟨rfl, _⟩ | ⟨rfl, _⟩
     ·rw [uy] at hlv; cases hlv
     ·rw [ub] at hft
      obtain ⟨l, h1, h2⟩ := hft
      right
      rcases h2 with rfl | ⟨i', h3, _, h4⟩
      ·exact ⟨x, _, List.mem_cons_of_mem _ (List.mem_cons_self ..), by rw [hb]; rfl, a1g h1⟩
      ·by_cases hii : i' = i
       ·subst hii
        rcases hbr with ⟨q1, _⟩ | ⟨l', q1, q2, q3, q4⟩
        ·omega
        rw [h1] at q1; cases q1
        obtain ⟨ly, t1, rfl⟩ := hIy l h1 h3 (fun _ _ _ => trivial) g h4 (q3.2 i' h3 rfl)
        exact ⟨y, _, List.mem_cons_self .., by rw [hy]; rfl, a1g t1⟩
       ·exact ⟨x, _, List.mem_cons_of_mem _ (List.mem_cons_self ..), by rw [hb]; rfl, l, h1, .inr (by rw [hb]; exact ⟨i', h3, (ho i').2 hii, h4⟩)⟩
    one := by
     intro x x' q q' g hne hq hq' hr hlv h1 h2
     simp only [List.mem_cons, Prod.mk.injEq, List.not_mem_nil, or_false] at hq hq'
     rcases hq with ⟨rfl, _⟩ | ⟨rfl, _⟩
     ·rw [uy] at hr; cases hr
     ·rcases hq' with ⟨rfl, _⟩ | ⟨rfl, _⟩
      ·rw [uy] at hlv; cases hlv
      ·exact hne rfl
    rwn := fun x q hq hlv => by
     simp only [List.mem_cons, Prod.mk.injEq, List.not_mem_nil, or_false] at hq
     rcases hq with ⟨_, rfl⟩ | ⟨_, rfl⟩
     ·cases hlv
     ·rfl
    upr := fun x q hq => by
     simp only [List.mem_cons, Prod.mk.injEq, List.not_mem_nil, or_false] at hq
     rcases hq with ⟨rfl, _⟩ | ⟨rfl, _⟩
     ·exact .inr (.inl (by rw [hy]; rfl))
     ·exact .inr (.inl (by rw [hb]; rfl))
    als := fun x c' j hx => by
     have hxy : x ≠ y := fun e => by rw [e, uy] at hx; cases hx
     have hxb : x ≠ b := fun e => by rw [e, ub] at hx; cases hx
     rw [uo x hxy hxb] at hx
     obtain ⟨l, g1, g2, g3⟩ := hw.als x c' j hx
     by_cases hcb : c' = b
     ·subst hcb
      right
      refine ⟨l, g1, fun _ => by rw [ub]; rfl, fun rw2 t2 te2 e2 n2 r2 o2 y2 hb2 => ?_⟩
      rw [ub] at hb2
      cases hb2
      obtain ⟨u1, u2, u3⟩ := g3 _ _ _ _ _ _ _ _ hb
      refine ⟨u1, (fun e => by cases e), ?_⟩
      rw [a4d _ _ ((ho j).1 u2)]
      exact u3
     ·have hcy : c' ≠ y := fun e => by
       rw [e, hy] at g2; exact absurd (g2 rfl) (by simp [Blk.flat])
      refine .inl ⟨fun q hq => ?_, fun q hq => ?_⟩
      ·simp only [List.mem_cons, Prod.mk.injEq, List.not_mem_nil, or_false] at hq
       rcases hq with ⟨e, _⟩ | ⟨e, _⟩
       ·exact hxy e
       ·exact hxb e
      ·simp only [List.mem_cons, Prod.mk.injEq, List.not_mem_nil, or_false] at hq
       rcases hq with ⟨e, _⟩ | ⟨e, _⟩
       ·exact hcy e
       ·exact hcb e }
  ·cases h
 ·cases h
def b9i (bs : Nat -> Blk) (y f : Nat) : Option (List (Nat × Blk)) := match bs y, bs f with
 | .rows true e n hd r, .rows true e' m hd' r' => bif Nat.beq e e' && (Nat.blt 0 m && !Nat.beq y f) then
   some [(y, .gone), (f, .rows true e (n + m) (fun i => bif Nat.blt i n then hd i else hd' (i - n)) (fun i => bif Nat.blt i n then r i else r' (i - n)))] else none
 | _, _ => none
theorem b9a {E : Amb} {ι : Lay} {bs : Nat -> Blk} {y f F : Nat} {w : World} (hw : WR E ι bs w) {up : List (Nat × Blk)} (h : b9i bs y f = some up) : Step E ι bs F F ι up w := by
 unfold b9i at h
 split at h
 ·rename_i e n hd r e' m hd' r' hy hf
  obtain ⟨hq, h⟩ := a02 h
  subst h
  simp only [Bool.and_eq_true, Bool.not_eq_true'] at hq
  have he := Nat.eq_of_beq_eq_true hq.1
  subst he
  have hm : 0 < m := Nat.le_of_ble_eq_true hq.2.1
  have hyf : y ≠ f := fun e => by have := hq.2.2; rw [e, Nat.beq_refl] at this; cases this
  have hblt : ∀ i k, Nat.blt i k = true ↔ i < k := fun i k => ⟨fun h => Nat.le_of_ble_eq_true h, fun h => Nat.ble_eq_true_of_le h⟩
  generalize hk : Blk.rows true e (n + m) (fun i => bif Nat.blt i n then hd i else hd' (i - n)) (fun i => bif Nat.blt i n then r i else r' (i - n)) = kk
  have uy : a1i bs [(y, .gone), (f, kk)] y = .gone := a0p ..
  have uf : a1i bs [(y, .gone), (f, kk)] f = kk := by rw [a0w _ _ _ _ (Ne.symm hyf), a0p]
  have hby := hw.br y
  have hbf := hw.br f
  rw [hy] at hby
  rw [hf] at hbf
  rcases hbf with ⟨q, _⟩ | ⟨l, hl, hR⟩
  ·omega
  have cases' : ∀ i, (i < n /\ (bif Nat.blt i n then hd i else hd' (i - n)) = hd i /\ (bif Nat.blt i n then r i else r' (i - n)) = r i) \/ (n <= i /\ (bif Nat.blt i n then hd i else hd' (i - n)) = hd' (i - n) /\ (bif Nat.blt i n then r i else r' (i - n)) = r' (i - n)) := fun i => by
   cases hb : Nat.blt i n with
   | true => exact .inl ⟨(hblt i n).1 hb, rfl, rfl⟩
   | false => exact .inr ⟨Nat.not_lt.1 (fun h => by rw [(hblt i n).2 h] at hb; cases hb), rfl, rfl⟩
  have rowy : ∀ i, i < n -> c9y w e (hd i) (r i) := fun i hi => by
   rcases hby with ⟨q, _⟩ | ⟨ly, _, hRy⟩
   ·omega
   ·exact hRy i hi
  have footk : ∀ g, foot ι w f kk g -> foot ι w f (bs f) g \/ foot ι w y (bs y) g := fun g hg => by
   rw [<- hk] at hg
   obtain ⟨l2, h1, h2⟩ := hg
   rcases h2 with h2 | ⟨i, hi, h2⟩
   ·exact .inl ⟨l2, h1, .inl h2⟩
   ·rcases cases' i with ⟨c1, c2, _⟩ | ⟨c1, c2, _⟩
    ·simp only [c2] at h2
     rcases hby with ⟨q, _⟩ | ⟨ly, hly, _⟩
     ·omega
     ·exact .inr ⟨ly, hly, .inr (by rw [hy]; exact ⟨i, c1, h2⟩)⟩
    ·simp only [c2] at h2
     exact .inl ⟨l2, h1, .inr (by rw [hf]; exact ⟨i - n, by omega, h2⟩)⟩
  have hmem : ∀ x q, (x, q) ∈ [(y, Blk.gone), (f, kk)] -> x = y \/ x = f := fun x q hq => by
   simp only [List.mem_cons, Prod.mk.injEq, List.not_mem_nil, or_false] at hq
   rcases hq with ⟨e, _⟩ | ⟨e, _⟩
   ·exact .inl e
   ·exact .inr e
  refine DeltaG.step (w := w) (w' := w) ?_ (fun b h1 h2 => by omega) hw
  exact {
   ext := fun _ _ => rfl
   br := by
    rintro x ⟨q, hq⟩
    rcases hmem x q hq with rfl | rfl
    ·rw [uy]; trivial
    ·rw [uf, <- hk]
     refine .inr ⟨l, hl, fun i hi => ?_⟩
     rcases cases' i with ⟨c1, c2, c3⟩ | ⟨c1, c2, c3⟩
     ·simp only [c2, c3]; exact rowy i c1
     ·simp only [c2, c3]; exact hR (i - n) (by omega)
   os := rfl
   tape := rfl
   output := rfl
   size := Nat.le_refl _
   keep := fun _ _ _ => rfl
   lt := fun _ _ h1 h2 => by omega
   orig := fun x q g hq hlv hft => by
    rcases hmem x q hq with rfl | rfl
    ·rw [uy] at hlv; cases hlv
    ·rw [uf] at hft
     rcases footk g hft with h1 | h1
     ·exact .inr ⟨x, kk, by simp, by rw [hf]; rfl, h1⟩
     ·exact .inr ⟨y, .gone, by simp, by rw [hy]; rfl, h1⟩
   one := fun x x' q q' g hne hq hq' hr hlv h1 h2 => by
    rcases hmem x q hq with rfl | rfl
    ·rw [uy] at hr; cases hr
    ·rcases hmem x' q' hq' with rfl | rfl
     ·rw [uy] at hlv; cases hlv
     ·exact hne rfl
   rwn := fun x q hq hlv => by
    simp only [List.mem_cons, Prod.mk.injEq, List.not_mem_nil, or_false] at hq
    rcases hq with ⟨_, rfl⟩ | ⟨_, rfl⟩
    ·cases hlv
    ·rw [<- hk]; rfl
   upr := fun x q hq => by
    rcases hmem x q hq with rfl | rfl
    ·exact .inr (.inl (by rw [hy]; rfl))
    ·exact .inr (.inl (by rw [hf]; rfl))
   als := fun x c j hx => by
    have hxy : x ≠ y := fun e => by rw [e, uy] at hx; cases hx
    have hxf : x ≠ f := fun e => by rw [e, uf, <- hk] at hx; cases hx
    rw [a0w _ _ _ _ hxy, a0w _ _ _ _ hxf] at hx
    obtain ⟨_, _, g2, _⟩ := hw.als x c j hx
    have hcy : c ≠ y := fun e => by rw [e, hy] at g2; exact absurd (g2 rfl) (by simp [Blk.flat])
    have hcf : c ≠ f := fun e => by rw [e, hf] at g2; exact absurd (g2 rfl) (by simp [Blk.flat])
    refine .inl ⟨fun q hq => ?_, fun q hq => ?_⟩
    ·rcases hmem x q hq with e | e
     ·exact hxy e
     ·exact hxf e
    ·rcases hmem c q hq with e | e
     ·exact hcy e
     ·exact hcf e }
 ·cases h
end Go.Vx
namespace Go.Vx
variable {P : Program}
def RowV (ι : Lay) (w : World) (te e : Nat) (v : Value) (ro : Nat × (Nat -> Nat -> AV)) : Prop :=
 ∃ (a : Option Addr) (k : Nat), v = .slice a ro.1 k /\ ro.1 <= k /\ (0 < k -> ∃ g p, a = some ⟨g, p, none⟩ /\ g < w.heap.size /\
  (∀ x, x < ro.1 -> ∀ j, j < e -> ∃ cv, w.cell? ⟨g, p + (x * e + j), none⟩ = some cv /\ cv.oneCell' = true /\ rel ι (ro.2 x j) cv) /\
  (k <= maxLen /\ ∃ (C : Array Value) (q : Nat), p = q * e /\ w.heap[g]? = some (.cells C te (0, 0)) /\ C.size = (q + k) * e))
def InV (v : Value) (g : Nat) : Prop := ∃ p m k, v = .slice (some ⟨g, p, none⟩) m k /\ 0 < k
theorem RowV.same {ι ι' : Lay} {w w' : World} {te e : Nat} {v : Value} {ro : Nat × (Nat -> Nat -> AV)} (h : RowV ι w te e v ro) (hx : Ext ι ι') (hs : ∀ g, InV v g -> w'.heap[g]? = w.heap[g]?) : RowV ι' w' te e v ro := by
 obtain ⟨a, k, h1, h2, h3⟩ := h
 refine ⟨a, k, h1, h2, fun hk => ?_⟩
 obtain ⟨g, p, e1, e2, e3, e4, C, q, e5, e6, e7⟩ := h3 hk
 have hg := hs g ⟨p, ro.1, k, by rw [h1, e1], hk⟩
 refine ⟨g, p, e1, ?_, fun x hx' j hj => ?_, e4, C, q, e5, hg.trans e6, e7⟩
 ·rw [e6] at hg; exact (Array.getElem?_eq_some_iff.1 hg).1
 ·obtain ⟨cv, r1, r2, r3⟩ := e3 x hx' j hj
  exact ⟨cv, (World.cell?_of_block hg).trans r1, r2, a2p hx _ _ r3⟩
theorem RowV.nil (ι : Lay) (w : World) (te e : Nat) : RowV ι w te e (.slice none 0 0) (0, fun _ _ => .dead) :=
 ⟨none, 0, rfl, Nat.le_refl _, fun h => absurd h (by omega)⟩
theorem RowV.own {ι : Lay} {w : World} (hlt : ∀ b l, ι b = some l -> l.g < w.heap.size) {te e m y len : Nat} {c : Nat -> Nat -> AV} (hb : BR ι w y (.arr true te e m c)) {v : Value} (hv : rel ι (.sl y e 0 len none) v) (hm : len <= m) :
  RowV ι w te e v (len, c) /\ v.oneCell' = true /\ ∀ g, InV v g -> ∃ ly, ι y = some ly /\ ly.g = g := by
 simp only [rel] at hv
 obtain ⟨a, k, rfl, h1, _, h3⟩ := hv
 refine ⟨⟨a, k, rfl, h1, fun hk => ?_⟩, rfl, ?_⟩
 ·obtain ⟨l, e1, e2, e3⟩ := h3 hk
  have e3 := e3 trivial
  rcases hb with ⟨_, q2⟩ | ⟨l', q1, q2, q3, q4⟩
  ·rw [e1] at q2; cases q2
  rw [e1] at q1; cases q1
  obtain ⟨s1, C, q, s2, s3, s4⟩ := q4 rfl
  refine ⟨l.g, l.o, by rw [e2]; simp, hlt y l e1, fun x hx j hj => q3 x (by simp only at hx; omega) j hj, by omega, C, q, s2, s3, by rw [s4]; congr 2; omega⟩
 ·rintro g ⟨p, m', k', e1, e2⟩
  simp only [Value.slice.injEq] at e1
  obtain ⟨rfl, _, rfl⟩ := e1
  obtain ⟨l, f1, f2, _⟩ := h3 e2
  simp only [Option.some.injEq, Addr.mk.injEq] at f2
  exact ⟨l, f1, f2.1.symm⟩
theorem c9z {ι : Lay} {w : World} {b t te e n : Nat} {r : Nat -> Nat × (Nat -> Nat -> AV)} {o : Option Nat} {y : Nat} (h : BR ι w b (.fam true t te e n r o y)) :
  ∃ vals : Nat -> Value, BR ι w b (.arr true t 1 n fun i _ => .val (vals i)) /\ ∀ i, i < n -> o ≠ some i -> RowV ι w te e (vals i) (r i) /\ ∀ l, ι b = some l -> ∀ g, InV (vals i) g -> a5n w l i g := by
 rcases h with ⟨h1, h2, h3⟩ | ⟨l, h1, h2, h3, h4⟩
 ·exact ⟨fun _ => .slice none 0 0, .inl ⟨h1, h2⟩, fun i hi => by omega⟩
 obtain ⟨s1, ⟨C, s2, s3⟩, s4⟩ := h4 rfl
 have hdr : ∀ i, i < n -> ∃ a m k, w.cell? ⟨l.g, l.o + i, none⟩ = some (.slice a m k) := fun i hi => by
  by_cases ho : o = some i
  ·obtain ⟨a, k, q, _⟩ := h3.2 i hi ho; exact ⟨a, _, k, q⟩
  ·obtain ⟨a, k, q, _⟩ := h3.1 i hi ho; exact ⟨a, _, k, q⟩
 refine ⟨fun i => (w.cell? ⟨l.g, l.o + i, none⟩).getD undef, .inr ⟨l, h1, h2, fun i hi j hj => ?_, fun _ => ⟨s1, C, l.o, by omega, s2, by omega⟩⟩, fun i hi ho => ?_⟩
 ·obtain rfl : j = 0 := by omega
  obtain ⟨a, m, k, q⟩ := hdr i hi
  refine ⟨.slice a m k, by rw [<- q]; congr 2; omega, rfl, ?_⟩
  simp only [rel, q, Option.getD_some]
 ·obtain ⟨a, k, q1, q2, q3⟩ := h3.1 i hi ho
  refine ⟨⟨a, k, by simp only [q1, Option.getD_some], q2, fun hk => ?_⟩, ?_⟩
  ·obtain ⟨g, p, e1, e2, e3, e4⟩ := q3 hk
   exact ⟨g, p, e1, e2, e3, e4 rfl⟩
  ·rintro l' hl' g ⟨p, m, k', e1, e2⟩
   rw [h1] at hl'; cases hl'
   simp only [q1, Option.getD_some] at e1
   exact ⟨p, m, k', by rw [q1]; exact congrArg some e1, e2⟩
theorem a8a {ι : Lay} {w : World} {b t te e n : Nat} {r : Nat -> Nat × (Nat -> Nat -> AV)} {y : Nat} {vals : Nat -> Value} (h : BR ι w b (.arr true t 1 n fun i _ => .val (vals i)))
  (hr : ∀ i, i < n -> RowV ι w te e (vals i) (r i)) (hs : ∀ i g l, i < n -> InV (vals i) g -> ι b = some l -> l.g ≠ g) (ha : ∀ i i' g, i < n -> i' < n -> i' ≠ i -> InV (vals i) g -> ¬ InV (vals i') g) :
  BR ι w b (.fam true t te e n r none y) /\ ∀ l, ι b = some l -> ∀ i g, i < n -> a5n w l i g -> InV (vals i) g := by
 rcases h with ⟨h1, h2⟩ | ⟨l, h1, h2, h3, h4⟩
 ·exact ⟨.inl ⟨h1, h2, rfl⟩, fun l hl => by rw [h2] at hl; cases hl⟩
 obtain ⟨s1, C, q, s2, s3, s4⟩ := h4 rfl
 have hc : ∀ i, i < n -> w.cell? ⟨l.g, l.o + i, none⟩ = some (vals i) := fun i hi => by
  obtain ⟨cv, q1, _, q3⟩ := h3 i hi 0 (by omega)
  simp only [rel] at q3
  subst q3
  rw [<- q1]; congr 2; omega
 have hI : ∀ i g, i < n -> a5n w l i g -> InV (vals i) g := fun i g hi ⟨p, m, k, q1, q2⟩ => by
  rw [hc i hi] at q1
  exact ⟨p, m, k, Option.some.inj q1, q2⟩
 refine ⟨.inr ⟨l, h1, h2, ⟨fun i hi _ => ?_, fun i _ h => by cases h⟩, fun _ => ⟨s1, ⟨C, s3, by omega⟩, fun i g hi _ hI1 => ⟨hs i g l hi (hI i g hi hI1) h1, fun i' hi' _ hne hI2 => ha i i' g hi hi' hne (hI i g hi hI1) (hI i' g hi' hI2)⟩⟩⟩, fun l' hl' i g hi => ?_⟩
 ·obtain ⟨a, k, q1, q2, q3⟩ := hr i hi
  refine ⟨a, k, by rw [hc i hi, q1], q2, fun hk => ?_⟩
  obtain ⟨g, p, e1, e2, e3, e4⟩ := q3 hk
  exact ⟨g, p, e1, e2, e3, fun _ => e4⟩
 ·rw [h1] at hl'; cases hl'; exact hI i g hi
structure FamD where
 p : List Prop
 v : AV
 up : List (Nat × Blk)
 f' : Nat
def b13 (T : Tab) (op : Op) (ev : Operand -> AV) (bs : Nat -> Blk) (f : Nat) : Option FamD := match op with
 | .load t x => match T.get t, ev x with
  | some { k := .slice _, .. }, .ptr b 1 i 0 => match bs b with
   | .fam _ _ _ e n r o _ => some ⟨(i < n) :: c8v o i, .sl f e 0 (r i).1 none, [(f, .row b i)], f + 1⟩
   | _ => none
  | _, _ => none
 | .store t x v => match ev x with
  | .ptr y e i j => match bs y with
   | .row b r0 => match bs b with
    | .fam true t0 te e' n r none y0 => match T.get t, a03 (.arr true te e' (r r0).1 (r r0).2) e i j (ev v).cells with
     | some d, some (p, .arr _ _ _ _ c) => bif Nat.beq (ev v).cells.length d.sz && a2a (ev v).cells then some ⟨p, .dead, [(b, .fam true t0 te e' n (setRow r r0 ((r r0).1, c)) none y0)], f⟩ else none
     | _, _ => none
    | _ => none
   | _ => none
  | _ => none
 | .makeSlice t l c => match T.get t with
  | some { k := .slice te, .. } => match T.get te with
   | some { k := .slice te2, sz := 1, bytes := by_, zero := [.slice none 0 0], .. } => match T.get te2, ev l, ev c with
    | some d2, .val (.int _ n), .val (.int _ m) => bif Nat.blt 0 by_ then some ⟨[0 <= n, n <= m, m * by_ <= 140737488355328], .sl f 1 0 n.toNat none, [(f, .fam true te te2 d2.sz n.toNat (fun _ => (0, fun _ _ => .dead)) none 0)], f + 1⟩ else none
    | _, _, _ => none
   | _ => none
  | _ => none
 | _ => none
def c8s (o : Option Nat) (i : Nat) : List Prop := match o with
 | none => []
 | some j => [j = i]
def b55 (te e : Nat) (v : AV) (bs : Nat -> Blk) : Option (List Prop × (Nat × (Nat -> Nat -> AV)) × List (Nat × Blk) × Nat) := match v with
 | .val (.slice none 0 0) => some ([], (0, fun _ _ => .dead), [], 0)
 | .sl y e' 0 len none => match bs y with
  | .arr true te' e2 m c => bif Nat.beq te' te && (Nat.beq e2 e && Nat.beq e' e) then some ([len <= m], (len, c), [(y, .gone)], y) else none
  | _ => none
 | _ => none
def nmOf (g : List (Nat × Blk)) (len y f i : Nat) : List (Nat × Blk) := match g with
 | [] => []
 | _ :: _ => match len with
  | 0 => []
  | _ + 1 => [(y, .row f i)]
def b0n (T : Tab) (op : Op) (ev : Operand -> AV) (bs : Nat -> Blk) (f : Nat) : Option FamD := match op with
 | .store t x v => match ev x with
  | .ptr b 1 i 0 => match bs b with
   | .fam true t0 te e n r o _ => match T.get t with
    | some { sz := 1, .. } => match b55 te e (ev v) bs with
     | some (p, q, g, _) => some ⟨(i < n) :: c8s o i ++ p, .dead, g ++ (b, .fam true t0 te e n (setRow r i q) none 0) :: a8q bs b b (range' f 0), f⟩
     | none => none
    | _ => none
   | _ => none
  | _ => none
 | .call c => match c.callee, c.args.toList, c.argTypes.toList with
  | .builtin .append, [s, x], [t, t'] => match ev x with
   | .sl z 1 0 1 _ => match bs z with
    | .arr _ _ 1 1 cz => match T.get t with
     | some { k := .slice te, .. } => match T.get te with
      | some { t := te0, k := .slice te2, sz := 1, bytes := by_, zero := [_], .. } => match T.get te2, bif Nat.beq t t' && (Nat.blt 0 by_ && Nat.beq te0 te) then some () else none with
       | some d2, some _ => match b55 te2 d2.sz (cz 0 0) bs with
        | some (p, q, g, yr) => match ev s with
         | .val (.slice none 0 0) => some ⟨(1 * by_ <= 140737488355328) :: p, .sl f 1 0 1 none, nmOf g q.1 yr f 0 ++ (g ++ [(f, .fam true te te2 d2.sz 1 (setRow (fun _ => q) 0 q) none 0)]), f + 1⟩
         | .sl b 1 0 len none => match bs b with
          | .fam true t0 te' e n r none _ => bif Nat.beq t0 te && (Nat.beq te' te2 && Nat.beq e d2.sz) then
            some ⟨(n = len) :: ((len + 1) * by_ <= 140737488355328) :: p, .sl f 1 0 (len + 1) none, nmOf g q.1 yr f len ++ ((b, .gone) :: (g ++ (f, .fam true te te2 e (len + 1) (setRow r len q) none 0) :: a8q bs b b (range' f 0))), f + 1⟩ else none
          | _ => none
         | _ => none
        | none => none
       | _, _ => none
      | _ => none
     | _ => none
    | _ => none
   | _ => none
  | _, _, _ => none
 | _ => none
def b8b (op : Op) (ev : Operand -> AV) (bs : Nat -> Blk) (f : Nat) : Option (List (Nat × Blk)) := match op with
 | .call c => match c.callee, c.args.toList with
  | .builtin .append, [s, _] => match ev s with
   | .sl y _ _ _ none => b0o bs f y
   | _ => none
  | _, _ => none
 | _ => none
end Go.Vx
namespace Go.Vx
variable {P : Program}
theorem Step.reup {E : Amb} {ι ι' : Lay} {bs : Nat -> Blk} {f f' : Nat} {up up' : List (Nat × Blk)} {w' : World} (h : Step E ι bs f f' ι' up w') (he : ∀ x, a1i bs up' x = a1i bs up x)
  (ho : ∀ b k, (b, k) ∈ up' -> (f <= b /\ b < f') \/ bs b ≠ .gone) (hr : ∀ b k, (b, k) ∈ up' -> k.live = true -> k.rw = true) : Step E ι bs f f' ι' up' w' where
 ext := h.ext
 le := h.le
 wr := by rw [show a1i bs up' = a1i bs up from funext he]; exact h.wr
 old := ho
 rwn := hr
theorem c9h {E : Amb} {ι : Lay} {bs : Nat -> Blk} {w : World} (hw : WR E ι bs w) {f b : Nat} {k : Blk} (hr : (bs b).rw = true) (hp : (bs b).plain = true) (hk : k.rw = true) (hbr : BR ι w b k) (hft : ∀ g, foot ι w b k g -> foot ι w b (bs b) g) :
  Step E ι bs f f ι [(b, k)] w := by
 have ub : a1i bs [(b, k)] b = k := a0p ..
 refine DeltaG.step (w := w) (w' := w) ?_ (fun b h1 h2 => by omega) hw
 exact {
  ext := fun _ _ => rfl
  br := by
   rintro x ⟨q, hq⟩
   simp only [List.mem_singleton, Prod.mk.injEq] at hq
   obtain ⟨rfl, rfl⟩ := hq
   rw [ub]; exact hbr
  os := rfl
  tape := rfl
  output := rfl
  size := Nat.le_refl _
  keep := fun _ _ _ => rfl
  lt := fun _ _ h1 h2 => by omega
  orig := fun x q g hq _ h1 => by
   simp only [List.mem_singleton, Prod.mk.injEq] at hq
   obtain ⟨rfl, rfl⟩ := hq
   rw [ub] at h1
   exact .inr ⟨x, q, List.mem_singleton.2 rfl, hr, hft g h1⟩
  one := fun x x' q q' g hne hq hq' => by
   simp only [List.mem_singleton, Prod.mk.injEq] at hq hq'
   exact absurd (hq.1.trans hq'.1.symm) hne
  rwn := fun x q hq _ => by
   simp only [List.mem_singleton, Prod.mk.injEq] at hq
   rw [hq.2]; exact hk
  upr := fun x q hq => by
   simp only [List.mem_singleton, Prod.mk.injEq] at hq
   exact .inr (.inl (by rw [hq.1]; exact hr))
  als := fun x c j hx => by
   have hxb : x ≠ b := fun e => by rw [e, ub] at hx; rw [hx] at hk; cases hk
   rw [a0w _ _ _ _ hxb] at hx
   obtain ⟨_, _, g2, _⟩ := hw.als x c j hx
   have hcb : c ≠ b := fun e => by rw [e, a6u hp] at g2; exact absurd (g2 (a1p hr)) (by simp)
   exact .inl ⟨fun q hq => hxb (by simp at hq; exact hq.1), fun q hq => hcb (by simp at hq; exact hq.1)⟩ }
theorem b4h {T : Tab} (hT : a2n P T) {E : Amb} {ι : Lay} {bs : Nat -> Blk} {w : World} (hw : WR E ι bs w) {ev : Operand -> AV} {ca : Operand -> Value} (hev : ∀ x, rel ι (ev x) (ca x)) {f f' : Nat}
  (hn : ∀ b, f <= b -> b < f' -> ι b = none /\ bs b = .gone) {o : Oper} {d : FamD} (h : b13 T o.op ev bs f = some d) (hp : a14 d.p) (hff : d.f' <= f') :
  ∃ c w' ι', ((execOp ca o).run P w = .ok (.value c) w' \/ ((execOp ca o).run P w = .ok .skip w' /\ c = undef)) /\ rel ι' d.v c /\ Step E ι bs f f' ι' d.up w' := by
 obtain ⟨dst, op, ty, pos, after, guard⟩ := o
 simp only at h
 unfold b13 at h
 split at h
 ·rename_i t x
  split at h
  ·rename_i te0 sz by_ z0 eq0 b i ht hx
   split at h
   ·rename_i rw t' te e n r oo yy hb
    simp only [Option.some.injEq] at h
    subst h
    have hld : c8a T (.load t x) ev bs = some ⟨b, i, e, n, oo, (r i).1⟩ := by simp only [c8a, ht, hx, hb]
    obtain ⟨c, ι', h1, h2, h3⟩ := c3j (o := ⟨dst, .load t x, ty, pos, after, guard⟩) hT hw hev (Nat.lt_of_lt_of_le (Nat.lt_succ_self f) hff) hn hld hp.1 hp.2
    exact ⟨c, w, ι', .inl h1, h2, h3⟩
   ·cases h
  ·cases h
 ·rename_i t x v
  split at h
  ·rename_i y e i j hx
   split at h
   ·rename_i b r0 hy
    split at h
    ·rename_i t0 te e' n r y0 hb
     split at h
     ·rename_i d0 p rw2 t2 e2 n2 c2 ht hwr
      obtain ⟨hq, h⟩ := a02 h
      subst h
      simp only [Bool.and_eq_true] at hq
      obtain ⟨l, hl, _, hqq⟩ := hw.als y b r0 hy
      obtain ⟨hi, ho, a, k, hc, hk1, hk0⟩ := hqq _ _ _ _ _ _ _ _ hb
      have hbr := hw.br b
      rw [hb] at hbr
      have hbr0 := hbr
      rcases hbr with ⟨q1, _⟩ | ⟨l', q1, q2, q3, q4⟩
      ·omega
      rw [hl] at q1; cases q1
      obtain ⟨r1, r2, r3⟩ := q4 rfl
      obtain ⟨a', k', s1, s2, s3⟩ := q3.1 r0 hi ho
      rw [hc] at s1
      simp only [Option.some.injEq, Value.slice.injEq, true_and] at s1
      obtain ⟨rfl, rfl⟩ := s1
      have hwr0 := hwr
      simp only [a03] at hwr
      obtain ⟨hq3, hwr⟩ := a02 hwr
      simp only [Prod.mk.injEq, Blk.arr.injEq] at hwr
      obtain ⟨rfl, rfl, rfl, rfl, rfl, hc2⟩ := hwr
      simp only [Bool.and_eq_true] at hq3
      have hee := Nat.eq_of_beq_eq_true hq3.1.1
      have hir : i < (r r0).1 := hp.1
      have hk : 0 < k := by omega
      obtain ⟨ly, e1, e2, e3⟩ := hk1 hk
      obtain ⟨g, p', g1, g2, g3, g4⟩ := s3 hk
      rw [e2] at g1
      simp only [Option.some.injEq, Addr.mk.injEq, and_true] at g1
      obtain ⟨rfl, rfl⟩ := g1
      obtain ⟨m1, C, qq, m2, m3, m4⟩ := g4 rfl
      have hyb : y ≠ b := fun e => by rw [e, hb] at hy; cases hy
      have hI : a5n w l r0 ly.g := ⟨ly.o, (r r0).1, k, by rw [hc, e2], hk⟩
      obtain ⟨t1, t2'⟩ := r3 r0 ly.g hi ho hI
      have hst := b25 (P := P) (w := w) (ι := ι) (bs := fun x => if x = y then .arr true te e' (r r0).1 (r r0).2 else .gone) (f := f) (f' := f) hT ht (b := y) (e := e) (i := i) (j := j) (p := [i < (r r0).1]) (v := ev v)
       (k := .arr true te e' (r r0).1 c2) (fun b h1 h2 => by omega) (by
        simp only [if_true]
        exact .inr ⟨ly, e1, by omega, fun x hx j hj => g3 x hx j hj, fun _ => ⟨by omega, C, qq, m2, m3, by rw [e3]; exact m4⟩⟩) (fun l hl => hw.lt y l hl)
       (by simp only [if_true]; exact hwr0) hp (Nat.eq_of_beq_eq_true hq.1) hq.2 (by have := hev x; rw [hx] at this; exact this) (hev v)
      obtain ⟨cc, w', ι', hrun, hrel, hd⟩ := hst
      obtain rfl : ι = ι' := (funext fun b => hd.ext b (by omega)).symm
      refine ⟨cc, w', ι, by simpa [execOp] using hrun, by simp [rel], ?_⟩
      have hsame : ∀ g, g < w.heap.size -> g ≠ ly.g -> w'.heap[g]? = w.heap[g]? := fun g hg hne => hd.keep g hg fun b1 k1 l1 hm _ hl1 => by
       simp only [List.mem_singleton, Prod.mk.injEq] at hm
       obtain ⟨rfl, rfl⟩ := hm
       rw [e1] at hl1; cases hl1
       exact Ne.symm hne
      have hlg : l.g < w.heap.size := hw.lt b l hl
      have hspine : w'.heap[l.g]? = w.heap[l.g]? := hsame l.g hlg t1
      have hcell : ∀ i, w'.cell? ⟨l.g, l.o + i, none⟩ = w.cell? ⟨l.g, l.o + i, none⟩ := fun i => World.cell?_of_block hspine
      have hby := hd.br y ⟨_, List.mem_singleton.2 rfl⟩
      rw [a0p] at hby
      obtain ⟨u1, u2, u3⟩ : (r r0).1 <= ly.n /\ (∀ i, i < (r r0).1 -> ∀ j, j < e' -> ∃ cv, w'.cell? ⟨ly.g, ly.o + (i * e' + j), none⟩ = some cv /\ cv.oneCell' = true /\ rel ι (c2 i j) cv) /\
        (ly.n <= maxLen /\ ∃ (C : Array Value) (q : Nat), ly.o = q * e' /\ w'.heap[ly.g]? = some (.cells C te (0, 0)) /\ C.size = (q + ly.n) * e') := by
       rcases hby with ⟨_, z⟩ | ⟨l2, z1, z2, z3, z4⟩
       ·rw [e1] at z; cases z
       ·rw [e1] at z1; cases z1
        exact ⟨z2, z3, z4 rfl⟩
      have hIw : ∀ i g, a5n w' l i g ↔ a5n w l i g := fun i g => by unfold a5n; rw [hcell]
      have ub : a1i bs [(b, .fam true t0 te e' n (setRow r r0 ((r r0).1, c2)) none y0)] b = .fam true t0 te e' n (setRow r r0 ((r r0).1, c2)) none y0 := a0p ..
      have len' : ∀ i, (setRow r r0 ((r r0).1, c2) i).1 = (r i).1 := fun i => by
       by_cases h : i = r0
       ·subst h; rw [a2l]
       ·rw [a4d _ _ h]
      refine DeltaG.step (w := w) ?_ hn hw
      exact {
       ext := fun _ _ => rfl
       br := by
        rintro x ⟨q, hq⟩
        simp only [List.mem_singleton, Prod.mk.injEq] at hq
        obtain ⟨rfl, rfl⟩ := hq
        rw [ub]
        refine .inr ⟨l, hl, q2, ⟨fun i' hi' _ => ?_, fun i' _ h => by cases h⟩, fun _ => ⟨r1, ?_, fun i' g hi' _ hI' => ?_⟩⟩
        ·by_cases hii : i' = r0
         ·subst hii
          rw [a2l]
          exact ⟨a, k, (hcell i').trans hc, s2, fun _ => ⟨ly.g, ly.o, e2, Nat.lt_of_lt_of_le g2 hd.size, u2, fun _ => ⟨by omega, by rw [<- e3]; exact u3.2⟩⟩⟩
         ·rw [a4d _ _ hii]
          obtain ⟨a2, k2, v1, v2, v3⟩ := q3.1 i' hi' (fun e => by cases e)
          refine ⟨a2, k2, (hcell i').trans v1, v2, fun hk2 => ?_⟩
          obtain ⟨g', p2, x1, x2, x3, x4⟩ := v3 hk2
          have hne : g' ≠ ly.g := fun e => t2' i' hi' (fun e => by cases e) hii ⟨p2, _, k2, by rw [v1, x1, e], hk2⟩
          have hg' := hsame g' x2 hne
          refine ⟨g', p2, x1, Nat.lt_of_lt_of_le x2 hd.size, fun x hx j hj => ?_, fun _ => ?_⟩
          ·obtain ⟨cv, y1, y2⟩ := x3 x hx j hj
           exact ⟨cv, (World.cell?_of_block hg').trans y1, y2⟩
          ·obtain ⟨y1, C2, q2', y2, y3, y4⟩ := x4 rfl
           exact ⟨y1, C2, q2', y2, hg'.trans y3, y4⟩
        ·obtain ⟨C3, z1, z2⟩ := r2
         exact ⟨C3, hspine.trans z1, z2⟩
        ·obtain ⟨z1, z2⟩ := r3 i' g hi' (fun e => by cases e) ((hIw i' g).1 hI')
         exact ⟨z1, fun i2 h2 _ hne hI2 => z2 i2 h2 (fun e => by cases e) hne ((hIw i2 g).1 hI2)⟩
       os := hd.os
       tape := hd.tape
       output := hd.output
       size := hd.size
       keep := fun g hg hk => hsame g hg fun e => hk b _ (List.mem_singleton.2 rfl) (by rw [hb]; rfl) ⟨l, hl, .inr (by rw [hb]; exact ⟨r0, hi, ho, e ▸ hI⟩)⟩
       lt := fun b1 l1 h1 h2 h3 => by rw [(hn b1 h1 h2).1] at h3; cases h3
       orig := fun x q g hq hlv hft => by
        simp only [List.mem_singleton, Prod.mk.injEq] at hq
        obtain ⟨rfl, rfl⟩ := hq
        rw [ub] at hft
        obtain ⟨l2, h1, h2⟩ := hft
        refine .inr ⟨x, _, List.mem_singleton.2 rfl, by rw [hb]; rfl, l2, h1, h2.imp id ?_⟩
        rintro ⟨i', h3, _, h4⟩
        rw [hl] at h1; cases h1
        rw [hb]
        exact ⟨i', h3, fun e => (by cases e), (hIw i' g).1 h4⟩
       one := fun x x' q q' g hne hq hq' => by
        simp only [List.mem_singleton, Prod.mk.injEq] at hq hq'
        exact absurd (hq.1.trans hq'.1.symm) hne
       rwn := fun x q hq _ => by
        simp only [List.mem_singleton, Prod.mk.injEq] at hq
        rw [hq.2]; rfl
       upr := fun x q hq => by
        simp only [List.mem_singleton, Prod.mk.injEq] at hq
        exact .inr (.inl (by rw [hq.1, hb]; rfl))
       als := fun x c' j' hx' => by
        have hxb : x ≠ b := fun e => by rw [e, ub] at hx'; cases hx'
        rw [a0w _ _ _ _ hxb] at hx'
        by_cases hcb : c' = b
        ·subst hcb
         obtain ⟨l2, g1, g2, g3⟩ := hw.als x c' j' hx'
         rw [hl] at g1; cases g1
         right
         refine ⟨l, hl, fun _ => by rw [ub]; rfl, fun rw3 t3 te3 e3 n3 r3' o3 y3 hb3 => ?_⟩
         rw [ub] at hb3
         cases hb3
         obtain ⟨v1, v2, a4, k4, v3, v4⟩ := g3 _ _ _ _ _ _ _ _ hb
         exact ⟨v1, v2, a4, k4, by rw [hcell, len']; exact v3, v4⟩
        ·exact .inl ⟨fun q hq => hxb (by simp at hq; exact hq.1), fun q hq => hcb (by simp at hq; exact hq.1)⟩ }
     ·cases h
    ·cases h
   ·cases h
  ·cases h
 ·rename_i t l c
  split at h
  ·rename_i te _ _ _ _ hd1
   split at h
   ·rename_i t9 te2 by_ _ hde
    split at h
    ·rename_i d2 k1 n k2 m hd2 hl hc
     obtain ⟨hq, h⟩ := a02 h
     subst h
     obtain ⟨a1, a2, a3, _⟩ := hp
     have h1 := hev l
     have h2 := hev c
     rw [hl] at h1
     rw [hc] at h2
     simp only [rel] at h1 h2
     have hbp : 0 < by_ := Nat.le_of_ble_eq_true hq
     obtain ⟨cc, w', ι', hrun, hrel, hd⟩ := c0b (P := P) (bs := bs) (ι := ι) (w := w) (f := f) (f' := f') hT hd1 rfl hde hn (Nat.lt_of_lt_of_le (Nat.lt_succ_self f) hff) k1 k2 n m a1 a2 a3 hbp rfl rfl
     refine ⟨cc, w', ι', by simpa only [execOp, h1, h2] using hrun, hrel, ?_⟩
     have hS := hd.step hn hw
     have hff2 : f + 1 <= f' := hff
     have uf : a1i bs [(f, .arr true te 1 n.toNat fun _ j => .val ([Value.slice none 0 0].getD j undef))] f = .arr true te 1 n.toNat fun _ j => .val ([Value.slice none 0 0].getD j undef) := a0p ..
     have hbr := hS.wr.br f
     rw [uf] at hbr
     have hb2 : BR ι' w' f (.arr true te 1 n.toNat fun _ _ => .val (Value.slice none 0 0)) := by
      rcases hbr with q | ⟨l, q1, q2, q3, q4⟩
      ·exact .inl q
      ·refine .inr ⟨l, q1, q2, fun i hi j hj => ?_, q4⟩
       have := q3 i hi j hj
       obtain rfl : j = 0 := by omega
       exact this
     have nI : ∀ g, ¬ InV (Value.slice none 0 0) g := fun g ⟨p, m, k, h, _⟩ => by simp at h
     obtain ⟨h3, h4⟩ := a8a (te := te2) (e := d2.sz) (r := fun _ => (0, fun _ _ => .dead)) (y := 0) hb2 (fun i hi => RowV.nil _ _ _ _) (fun i g l _ h => absurd h (nI g)) (fun i i' g _ _ _ h => absurd h (nI g))
     have hG := c9h (f := f) (b := f) (k := .fam true te te2 d2.sz n.toNat (fun _ => (0, fun _ _ => .dead)) none 0) hS.wr (by rw [uf]; rfl) (by rw [uf]; rfl) rfl h3 (by
      rintro g ⟨l, z1, z2⟩
      refine ⟨l, z1, .inl ?_⟩
      rcases z2 with z2 | ⟨i, z3, _, z4⟩
      ·exact z2
      ·exact absurd (h4 l z1 i g z3 z4) (nI g))
     refine (Step.trans hS (hG.wide (by omega))).reup (fun x => ?_) (fun b k hk => ?_) (fun b k hk _ => ?_)
     ·by_cases h : x = f
      ·subst h; rw [List.singleton_append, a0p, a0p]
      ·rw [List.singleton_append, a0w _ _ _ _ h, a0w _ _ _ _ h, a0w _ _ _ _ h]
     ·simp only [List.mem_singleton, Prod.mk.injEq] at hk
      exact .inl (by omega)
     ·simp only [List.mem_singleton, Prod.mk.injEq] at hk
      rw [hk.2]; rfl
    ·cases h
   ·cases h
  ·cases h
 ·cases h
end Go.Vx
namespace Go.Vx
variable {P : Program}
theorem b0b {E : Amb} {ι : Lay} {bs : Nat -> Blk} {w : World} (hw : WR E ι bs w) {te e : Nat} {v : AV} {u : Value} (hv : rel ι v u) {p : List Prop} {q : Nat × (Nat -> Nat -> AV)} {g : List (Nat × Blk)} {y : Nat} (h : b55 te e v bs = some (p, q, g, y)) (hp : a14 p) :
  RowV ι w te e u q /\ u.oneCell' = true /\ ((g = [] /\ ∀ x, ¬ InV u x) \/ (g = [(y, .gone)] /\ (bs y).rw = true /\ (bs y).plain = true /\ (bs y).live = true /\ ∀ x, InV u x -> ∃ ly, ι y = some ly /\ ly.g = x)) /\
   (g ≠ [] -> ∃ (a : Option Addr) (k : Nat), u = .slice a q.1 k /\ q.1 <= k /\ (0 < k -> ∃ ly, ι y = some ly /\ a = some ⟨ly.g, ly.o, none⟩ /\ ly.n = k)) := by
 unfold b55 at h
 split at h
 ·simp only [Option.some.injEq, Prod.mk.injEq] at h
  obtain ⟨rfl, rfl, rfl, rfl⟩ := h
  obtain rfl : u = .slice none 0 0 := hv
  exact ⟨RowV.nil _ _ _ _, rfl, .inl ⟨rfl, fun x ⟨p, m, k, h, _⟩ => by simp at h⟩, fun h => absurd rfl h⟩
 ·rename_i y' e' len
  split at h
  ·rename_i te' e2 m c hy
   have hh := a02 h
   clear h
   obtain ⟨hq, h⟩ := hh
   simp only [Bool.and_eq_true] at hq
   obtain rfl := Nat.eq_of_beq_eq_true hq.1
   obtain rfl := Nat.eq_of_beq_eq_true hq.2.1
   obtain rfl := Nat.eq_of_beq_eq_true hq.2.2
   simp only [Prod.mk.injEq] at h
   obtain ⟨rfl, rfl, rfl, rfl⟩ := h
   have hb := hw.br y'
   rw [hy] at hb
   obtain ⟨h1, h2, h3⟩ := RowV.own hw.lt hb hv hp.1
   refine ⟨h1, h2, .inr ⟨rfl, by rw [hy]; rfl, by rw [hy]; rfl, by rw [hy]; rfl, h3⟩, fun _ => ?_⟩
   simp only [rel] at hv
   obtain ⟨a, k, q1, q2, _, q3⟩ := hv
   refine ⟨a, k, q1, q2, fun hk => ?_⟩
   obtain ⟨l, s1, s2, s3⟩ := q3 hk
   exact ⟨l, s1, (by rw [s2, Nat.zero_mul, Nat.add_zero]), (by have := s3 trivial; omega)⟩
  ·cases h
 ·cases h
theorem Als.turn {ι : Lay} {bs bs' : Nat -> Blk} {w : World} {x b i : Nat} (h : Als ι bs w x b i) (hb : bs' b = bs b \/ ∃ c j, bs' b = .row c j) : Als ι bs' w x b i := by
 obtain ⟨l, h1, h2, h3⟩ := h
 rcases hb with e | ⟨c, j, e⟩
 ·exact ⟨l, h1, by rw [e]; exact h2, by rw [e]; exact h3⟩
 ·exact ⟨l, h1, (by rw [e]; intro q; cases q), fun _ _ _ _ _ _ _ _ q => (by rw [e] at q; cases q)⟩
theorem Step.name {E : Amb} {ι ι' : Lay} {bs : Nat -> Blk} {f f' : Nat} {up : List (Nat × Blk)} {w' : World} (h : Step E ι bs f f' ι' up w') {y b i : Nat} (hy : a1i bs up y = .gone) (hyo : (f <= y /\ y < f') \/ bs y ≠ .gone)
  (ha : Als ι' (a1i bs up) w' y b i) : Step E ι bs f f' ι' ((y, .row b i) :: up) w' := by
 have hs : a1i bs ((y, .row b i) :: up) y = .row b i := a0p _ _ _ _
 have hne : ∀ x, x ≠ y -> a1i bs ((y, .row b i) :: up) x = a1i bs up x := fun x hx => a0w _ _ _ _ hx
 have hc : ∀ x, a1i bs ((y, .row b i) :: up) x = a1i bs up x \/ ∃ c j, a1i bs ((y, .row b i) :: up) x = .row c j := fun x => by
  by_cases e : x = y
  ·rw [e]; exact .inr ⟨b, i, hs⟩
  ·exact .inl (hne x e)
 exact {
  ext := h.ext
  le := h.le
  wr := {
   br := fun x => by
    by_cases e : x = y
    ·rw [e, hs]; trivial
    ·rw [hne x e]; exact h.wr.br x
   sepf := fun x x' g hxx hr hl h1 h2 => by
    have e1 : x ≠ y := fun e => by rw [e, hs] at hr; cases hr
    have e2 : x' ≠ y := fun e => by rw [e, hs] at hl; cases hl
    rw [hne x e1] at hr h1
    rw [hne x' e2] at hl h2
    exact h.wr.sepf x x' g hxx hr hl h1 h2
   lt := h.wr.lt
   flt := fun x g hl hf => by
    have e2 : x ≠ y := fun e => by rw [e, hs] at hl; cases hl
    rw [hne x e2] at hl hf
    exact h.wr.flt x g hl hf
   amb := h.wr.amb
   ownf := fun x g hr hf => by
    have e1 : x ≠ y := fun e => by rw [e, hs] at hr; cases hr
    rw [hne x e1] at hr hf
    exact h.wr.ownf x g hr hf
   als := fun x c j hx => by
    by_cases e : x = y
    ·rw [e, hs] at hx
     simp only [Blk.row.injEq] at hx
     obtain ⟨rfl, rfl⟩ := hx
     rw [e]
     exact ha.turn (hc b)
    ·rw [hne x e] at hx
     exact (h.wr.als x c j hx).turn (hc c) }
  old := fun x k hk => by
   rcases List.mem_cons.1 hk with hk | hk
   ·obtain ⟨rfl, rfl⟩ := Prod.mk.inj hk
    exact hyo
   ·exact h.old x k hk
  rwn := fun x k hk hl => by
   rcases List.mem_cons.1 hk with hk | hk
   ·obtain ⟨rfl, rfl⟩ := Prod.mk.inj hk
    cases hl
   ·exact h.rwn x k hk hl }
theorem Step.nmOf {E : Amb} {ι ι' : Lay} {bs : Nat -> Blk} {f f' : Nat} {up : List (Nat × Blk)} {w' : World} (h : Step E ι bs f f' ι' up w') {g : List (Nat × Blk)} {len y i n : Nat} {rw' : Bool} {t te e y0 : Nat} {r : Nat -> Nat × (Nat -> Nat -> AV)} {u : Value}
  (hyu : g ≠ [] -> ∃ (a : Option Addr) (k : Nat), u = .slice a len k /\ len <= k /\ (0 < k -> ∃ ly, ι y = some ly /\ a = some ⟨ly.g, ly.o, none⟩ /\ ly.n = k))
  (hy : g ≠ [] -> a1i bs up y = .gone /\ bs y ≠ .gone) (hf : a1i bs up f = .fam rw' t te e n r none y0) (hi : i < n) (hr : (r i).1 = len)
  (hcell : ∃ l, ι' f = some l /\ w'.cell? ⟨l.g, l.o + i, none⟩ = some u) : Step E ι bs f f' ι' (Vx.nmOf g len y f i ++ up) w' := by
 unfold Vx.nmOf
 cases g with
 | nil => exact h
 | cons g0 gs =>
  cases len with
  | zero => exact h
  | succ m =>
   obtain ⟨a, k, h1, h2, h3⟩ := hyu (by simp)
   obtain ⟨q1, q2⟩ := hy (by simp)
   obtain ⟨l, c1, c2⟩ := hcell
   refine h.name q1 (.inr q2) ⟨l, c1, fun _ => by rw [hf]; rfl, fun rw2 t2 te2 e2 n2 r2 o2 y2 hq => ?_⟩
   rw [hf] at hq
   simp only [Blk.fam.injEq] at hq
   obtain ⟨rfl, rfl, rfl, rfl, rfl, rfl, rfl, rfl⟩ := hq
   refine ⟨hi, fun q => (by cases q), a, k, by rw [c2, h1, hr], fun hk => ?_, fun hk => by omega⟩
   obtain ⟨ly, s1, s2, s3⟩ := h3 hk
   exact ⟨ly, h.le _ _ s1, s2, s3⟩
theorem c92 {ι : Lay} {w : World} {z tz : Nat} {rz : Bool} {cz : Nat -> Nat -> AV} (h : BR ι w z (.arr rz tz 1 1 cz)) : ∃ u, rel ι (cz 0 0) u /\ u.oneCell' = true /\ BR ι w z (.arr rz tz 1 1 fun _ _ => .val u) := by
 rcases h with ⟨h, _⟩ | ⟨l, h1, h2, h3, h4⟩
 ·cases h
 obtain ⟨cv, q1, q2, q3⟩ := h3 0 (by omega) 0 (by omega)
 refine ⟨cv, q3, q2, .inr ⟨l, h1, h2, fun i hi j hj => ?_, h4⟩⟩
 obtain rfl : i = 0 := by omega
 obtain rfl : j = 0 := by omega
 exact ⟨cv, q1, q2, rfl⟩
theorem c05 {E : Amb} {ι ι' : Lay} {bs : Nat -> Blk} {w w' : World} (hw : WR E ι bs w) {f f' : Nat} (hn : ∀ b, f <= b -> b < f' -> ι b = none /\ bs b = .gone) (hf : ∀ b, f <= b -> bs b = .gone) (hff : f < f')
  {ob : Option Nat} {n te te2 e y : Nat} {r : Nat -> Nat × (Nat -> Nat -> AV)} {q : Nat × (Nat -> Nat -> AV)} {vals : Nat -> Value} {u : Value} {g : List (Nat × Blk)}
  (hob : ∀ b, ob = some b -> ∃ t0 y0, bs b = .fam true t0 te2 e n r none y0) (hnone : ob = none -> n = 0)
  (hvals : ∀ b, ob = some b -> ∀ i, i < n -> RowV ι w te2 e (vals i) (r i) /\ ∀ l, ι b = some l -> ∀ g, InV (vals i) g -> a5n w l i g)
  (hrow : RowV ι w te2 e u q) (hg : (g = [] /\ ∀ x, ¬ InV u x) \/ (g = [(y, Blk.gone)] /\ (bs y).rw = true /\ (bs y).plain = true /\ (bs y).live = true /\ ∀ x, InV u x -> ∃ ly, ι y = some ly /\ ly.g = x))
  (ext : ∀ b, b < f \/ f' <= b -> ι' b = ι b) (os : w'.os = w.os) (tape : w'.tape = w.tape) (output : w'.output = w.output) (size : w.heap.size <= w'.heap.size)
  (keep : ∀ g, g < w.heap.size -> (∀ b l, ob = some b -> ι b = some l -> l.g ≠ g) -> w'.heap[g]? = w.heap[g]?)
  (lt : ∀ b l, f <= b -> b < f' -> ι' b = some l -> l.g < w'.heap.size)
  (fresh : ∀ lf, ι' f = some lf -> w.heap.size <= lf.g \/ ∃ b l0, ob = some b /\ ι b = some l0 /\ l0.g = lf.g)
  (hbr : BR ι' w' f (.arr true te 1 (n + 1) fun i _ => .val (if i = n then u else vals i))) {up : List (Nat × Blk)}
  (hup : ∀ x k, (x, k) ∈ up -> (ob = some x /\ k = .gone) \/ (x = y /\ k = .gone /\ g = [(y, .gone)]) \/ (x = f /\ k = .fam true te te2 e (n + 1) (setRow r n q) none 0) \/ (k = .gone /\ ∃ c j, bs x = .row c j))
  (hupf : (f, .fam true te te2 e (n + 1) (setRow r n q) none 0) ∈ up) (hupb : ∀ b, ob = some b -> (b, Blk.gone) ∈ up) (hupy : g = [(y, .gone)] -> (y, Blk.gone) ∈ up) (hupk : ∀ x c j, bs x = .row c j -> ob = some c -> ∃ k, (x, k) ∈ up) :
  Step E ι bs f f' ι' up w' := by
 have hext : Ext ι ι' := fun b l hl => by
  by_cases hb : b < f \/ f' <= b
  ·rw [ext b hb]; exact hl
  ·rw [(hn b (by omega) (by omega)).1] at hl; cases hl
 have hfg : bs f = .gone := hf f (Nat.le_refl _)
 have hbrw : ∀ b, ob = some b -> (bs b).rw = true /\ (bs b).plain = false := fun b h => by
  obtain ⟨t0, y0, h1⟩ := hob b h
  rw [h1]; exact ⟨rfl, rfl⟩
 have hyb : g = [(y, .gone)] -> (bs y).rw = true /\ (bs y).plain = true /\ y ≠ f /\ (∀ b, ob = some b -> y ≠ b) := fun g1 => by
  rcases hg with ⟨g0, _⟩ | ⟨_, g2, g3, _⟩
  ·rw [g0] at g1; simp at g1
  ·exact ⟨g2, g3, (fun e => by rw [e, hfg] at g2; cases g2), fun b hb e => by rw [e, (hbrw b hb).2] at g3; cases g3⟩
 have ufm : ∀ k, (f, k) ∈ up -> k = .fam true te te2 e (n + 1) (setRow r n q) none 0 := fun k hk => by
  rcases hup f k hk with ⟨h1, _⟩ | ⟨h1, _, h2⟩ | ⟨_, h1⟩ | ⟨_, c, j, h1⟩
  ·have := (hbrw f h1).1; rw [hfg] at this; cases this
  ·exact absurd h1.symm (hyb h2).2.2.1
  ·exact h1
  ·rw [hfg] at h1; cases h1
 have uf : a1i bs up f = .fam true te te2 e (n + 1) (setRow r n q) none 0 := by
  rcases a09 bs up f with ⟨k, h1, h2⟩ | ⟨h1, _⟩
  ·rw [h2]; exact ufm k h1
  ·exact absurd hupf (h1 _)
 have ug : ∀ x k, (x, k) ∈ up -> x ≠ f -> a1i bs up x = .gone := fun x k hk hxb => by
  rcases a09 bs up x with ⟨k2, h1, h2⟩ | ⟨h1, _⟩
  ·rw [h2]
   rcases hup x k2 h1 with ⟨_, h3⟩ | ⟨_, h3, _⟩ | ⟨h3, _⟩ | ⟨h3, _⟩
   ·exact h3
   ·exact h3
   ·exact absurd h3 hxb
   ·exact h3
  ·exact absurd hk (h1 k)
 have hIb : ∀ i x, i < n -> InV (vals i) x -> ∃ b l, ob = some b /\ ι b = some l /\ a5n w l i x /\ l.g ≠ x /\ (∀ i', i' < n -> i' ≠ i -> ¬ InV (vals i') x) /\ foot ι w b (bs b) x := fun i x hi hI => by
  cases hoo : ob with
  | none => rw [hnone hoo] at hi; omega
  | some b =>
   obtain ⟨t0, y0, hb⟩ := hob b hoo
   have hb0 := hw.br b
   rw [hb] at hb0
   rcases hb0 with ⟨q1, _⟩ | ⟨l, q1, q2, q3, q4⟩
   ·omega
   have h1 := (hvals b hoo i hi).2 l q1 x hI
   obtain ⟨_, _, r3⟩ := q4 rfl
   obtain ⟨s1, s2⟩ := r3 i x hi (fun e => by cases e) h1
   exact ⟨b, l, rfl, q1, h1, s1, fun i' hi' hne hI' => s2 i' hi' (fun e => by cases e) hne ((hvals b hoo i' hi').2 l q1 x hI'), l, q1, .inr (by rw [hb]; exact ⟨i, hi, (fun e => by cases e), h1⟩)⟩
 have hIu : ∀ x, InV u x -> (∃ ly, ι y = some ly /\ ly.g = x /\ foot ι w y (bs y) x) /\ (bs y).rw = true /\ (y, Blk.gone) ∈ up /\ ∀ b, ob = some b -> ¬ foot ι w b (bs b) x := fun x hx => by
  rcases hg with ⟨_, hno⟩ | ⟨g1, g2, g3, g4, g5⟩
  ·exact absurd hx (hno x)
  ·obtain ⟨ly, h1, h2⟩ := g5 x hx
   have hft : foot ι w y (bs y) x := h2 ▸ a1g h1
   exact ⟨⟨ly, h1, h2, hft⟩, g2, hupy g1, fun b hb h => hw.sepf b y x (Ne.symm ((hyb g1).2.2.2 b hb)) (hbrw b hb).1 g4 h hft⟩
 have hbl : ∀ x, (∀ b, ob = some b -> ¬ ∃ l, ι b = some l /\ l.g = x) -> x < w.heap.size -> w'.heap[x]? = w.heap[x]? := fun x h hx => keep x hx fun b l h1 h2 e => h b h1 ⟨l, h2, e⟩
 have hsame1 : ∀ i x, i < n -> InV (vals i) x -> w'.heap[x]? = w.heap[x]? /\ x < w.heap.size := fun i x hi hI => by
  obtain ⟨b, l, h1, h2, _, h4, _, h6⟩ := hIb i x hi hI
  have hlt := hw.flt b x (a1p (hbrw b h1).1) h6
  refine ⟨hbl x (fun b' hb' ⟨l', hl', e⟩ => ?_) hlt, hlt⟩
  rw [h1] at hb'; cases hb'
  rw [h2] at hl'; cases hl'
  exact h4 e
 have hsame2 : ∀ x, InV u x -> w'.heap[x]? = w.heap[x]? /\ x < w.heap.size := fun x hI => by
  obtain ⟨⟨ly, h1, h2, h3⟩, h4, _, h5⟩ := hIu x hI
  have hlt := hw.flt y x (a1p h4) h3
  exact ⟨hbl x (fun b' hb' ⟨l', hl', e⟩ => h5 b' hb' (e ▸ a1g hl')) hlt, hlt⟩
 obtain ⟨hF, hFI⟩ := a8a (te := te2) (e := e) (r := setRow r n q) (y := 0) hbr (fun i hi => by
   by_cases h : i = n
   ·subst h
    simp only [if_true, a2l]
    exact hrow.same hext fun x hx => (hsame2 x hx).1
   ·simp only [h, if_false]
    rw [a4d _ _ h]
    cases hoo : ob with
    | none => have := hnone hoo; omega
    | some b => exact (hvals b hoo i (by omega)).1.same hext fun x hx => (hsame1 i x (by omega) hx).1)
  (fun i x lf hi hI hlf e => by
   by_cases h : i = n
   ·subst h
    simp only [if_true] at hI
    rcases fresh lf hlf with h1 | ⟨b, l0, h1, h2, h3⟩
    ·have := (hsame2 x hI).2; omega
    ·exact (hIu x hI).2.2.2 b h1 (e ▸ h3 ▸ a1g h2)
   ·simp only [h, if_false] at hI
    obtain ⟨b, l, h1, h2, _, h4, _, h6⟩ := hIb i x (by omega) hI
    rcases fresh lf hlf with h7 | ⟨b', l0, h7, h8, h9⟩
    ·have := (hsame1 i x (by omega) hI).2; omega
    ·rw [h1] at h7; cases h7
     rw [h2] at h8; cases h8
     exact h4 (h9.trans e))
  (fun i1 i2 x h1 h2 hne hI1 hI2 => by
   by_cases h : i1 = n
   ·subst h
    simp only [if_true] at hI1
    simp only [hne, if_false] at hI2
    obtain ⟨b, l, k1, _, _, _, _, k6⟩ := hIb i2 x (by omega) hI2
    exact (hIu x hI1).2.2.2 b k1 k6
   ·simp only [h, if_false] at hI1
    obtain ⟨b, l, k1, _, _, _, k5, k6⟩ := hIb i1 x (by omega) hI1
    by_cases h' : i2 = n
    ·subst h'
     simp only [if_true] at hI2
     exact (hIu x hI2).2.2.2 b k1 k6
    ·simp only [h', if_false] at hI2
     exact k5 i2 (by omega) hne hI2)
 refine DeltaG.step (w := w) ?_ hn hw
 exact {
  ext := ext
  br := by
   rintro x ⟨k, hk⟩
   by_cases hxb : x = f
   ·subst hxb; rw [uf]; exact hF
   ·rw [ug x k hk hxb]; trivial
  os := os
  tape := tape
  output := output
  size := size
  keep := fun x hx hk => keep x hx fun b l h1 h2 e => hk b .gone (hupb b h1) (hbrw b h1).1 (e ▸ a1g h2)
  lt := lt
  orig := fun x k x2 hk hlv hft => by
   by_cases hxb : x = f
   ·subst hxb
    rw [uf] at hft
    obtain ⟨lf, h1, h2⟩ := hft
    rcases h2 with rfl | ⟨i, h3, _, h4⟩
    ·rcases fresh lf h1 with h5 | ⟨b, l0, h5, h6, h7⟩
     ·exact .inl ⟨h5, lt x lf (Nat.le_refl _) hff h1⟩
     ·exact .inr ⟨b, .gone, hupb b h5, (hbrw b h5).1, h7 ▸ a1g h6⟩
    ·have hI := hFI lf h1 i x2 h3 h4
     right
     by_cases h : i = n
     ·subst h
      simp only [if_true] at hI
      obtain ⟨⟨ly, _, _, k3⟩, k4, k5, _⟩ := hIu x2 hI
      exact ⟨y, .gone, k5, k4, k3⟩
     ·simp only [h, if_false] at hI
      obtain ⟨b, l, k1, _, _, _, _, k6⟩ := hIb i x2 (by omega) hI
      exact ⟨b, .gone, hupb b k1, (hbrw b k1).1, k6⟩
   ·rw [ug x k hk hxb] at hlv; cases hlv
  one := fun x x' k k' g2 hne hk hk' hr hlv _ _ => by
   have h1 : x = f := Classical.byContradiction fun h => by rw [ug x k hk h] at hr; cases hr
   have h2 : x' = f := Classical.byContradiction fun h => by rw [ug x' k' hk' h] at hlv; cases hlv
   exact absurd (h1.trans h2.symm) hne
  rwn := fun x k hk hlv => by
   rcases hup x k hk with ⟨_, rfl⟩ | ⟨_, rfl, _⟩ | ⟨_, rfl⟩ | ⟨rfl, _⟩
   ·cases hlv
   ·cases hlv
   ·rfl
   ·cases hlv
  upr := fun x k hk => by
   rcases hup x k hk with ⟨h, _⟩ | ⟨rfl, _, g1⟩ | ⟨rfl, _⟩ | ⟨_, h⟩
   ·exact .inr (.inl (hbrw x h).1)
   ·exact .inr (.inl (hyb g1).1)
   ·exact .inl ⟨Nat.le_refl _, hff⟩
   ·exact .inr (.inr h)
  als := fun x c j hx' => by
   have hx0 : ∀ k, (x, k) ∉ up := fun k hk => by
    by_cases hxb : x = f
    ·subst hxb; rw [uf] at hx'; cases hx'
    ·rw [ug x k hk hxb] at hx'; cases hx'
   have hbx : bs x = .row c j := by
    rcases a09 bs up x with ⟨k, h1, _⟩ | ⟨_, h2⟩
    ·exact absurd h1 (hx0 k)
    ·rw [<- h2]; exact hx'
   obtain ⟨l2, g1, g2, _⟩ := hw.als x c j hbx
   by_cases hck : ∃ k, (c, k) ∈ up
   ·obtain ⟨k, hk⟩ := hck
    have hcf : c ≠ f := fun e => by rw [e, (hn f (Nat.le_refl _) hff).1] at g1; cases g1
    have hgo := ug c k hk hcf
    exact .inr ⟨l2, hext _ _ g1, (by rw [hgo]; intro h; cases h), fun _ _ _ _ _ _ _ _ h => by rw [hgo] at h; cases h⟩
   ·exact .inl ⟨hx0, fun k hk => hck ⟨k, hk⟩⟩ }
theorem b1l {T : Tab} (hT : a2n P T) {E : Amb} {ι : Lay} {bs : Nat -> Blk} {w : World} (hw : WR E ι bs w) {ev : Operand -> AV} {ca : Operand -> Value} (hev : ∀ x, rel ι (ev x) (ca x)) {f f' : Nat}
  (hn : ∀ b, f <= b -> b < f' -> ι b = none /\ bs b = .gone) (hf : ∀ b, f <= b -> bs b = .gone) {o : Oper} {d : FamD} (h : b0n T o.op ev bs f = some d) (hp : a14 d.p) (hff : d.f' <= f') :
  ∃ c w' ι', ((execOp ca o).run P w = .ok (.value c) w' \/ ((execOp ca o).run P w = .ok .skip w' /\ c = undef)) /\ rel ι' d.v c /\ Step E ι bs f f' ι' d.up w' := by
 obtain ⟨dst, op, ty, pos, after, guard⟩ := o
 simp only at h
 unfold b0n at h
 split at h
 ·rename_i t x v
  split at h
  ·rename_i b i hx
   split at h
   ·rename_i t0 te e n r oo yy hb
    split at h
    ·rename_i tt kk by_ zz eqq hd
     split at h
     ·rename_i p q g y hra
      simp only [Option.some.injEq] at h
      subst h
      obtain ⟨hi, hp⟩ := hp
      have hsame : (∀ j, oo = some j -> j = i) /\ a14 p := by
       cases oo with
       | none => exact ⟨(fun j h => by cases h), hp⟩
       | some j => exact ⟨(fun j' h => by cases h; exact hp.1), hp.2⟩
      obtain ⟨hoo, hp⟩ := hsame
      obtain ⟨hrow, hone, hg⟩ := b0b hw (hev v) hra hp
      have hbr := hw.br b
      rw [hb] at hbr
      obtain ⟨vals, hv1, hv2⟩ := c9z hbr
      obtain ⟨l, hl⟩ : ∃ l, ι b = some l := by
       have := hev x
       rw [hx] at this
       simp only [rel] at this
       obtain ⟨l, h1, _⟩ := this
       exact ⟨l, h1⟩
      obtain ⟨r1, r2, r3⟩ : l.n <= maxLen /\ (∃ C : Array Value, w.heap[l.g]? = some (.cells C t0 (0, 0)) /\ C.size = l.o + l.n) /\ ∀ i g, i < n -> oo ≠ some i -> a5n w l i g -> l.g ≠ g /\ ∀ i', i' < n -> oo ≠ some i' -> i' ≠ i -> ¬ a5n w l i' g := by
       rcases hbr with ⟨q1, _⟩ | ⟨l', q1, q2, q3, q4⟩
       ·omega
       ·rw [hl] at q1; cases q1; exact q4 rfl
      have ho : ∀ i', i' ≠ i -> oo ≠ some i' := fun i' h e => h (hoo i' e)
      have hst := b25 (P := P) (w := w) (ι := ι) (bs := fun x => if x = b then .arr true t0 1 n (fun i _ => .val (vals i)) else .gone) (f := f) (f' := f) hT hd (b := b) (e := 1) (i := i) (j := 0) (p := [i < n]) (v := .val (ca v))
       (k := .arr true t0 1 n fun i' j' => bif Nat.beq i' i && (Nat.ble 0 j' && Nat.blt j' (0 + 1)) then [AV.val (ca v)].getD (j' - 0) .dead else .val (vals i')) (fun b h1 h2 => by omega) (by simp only [if_true]; exact hv1) (fun l hl => hw.lt b l hl)
       (by simp only [if_true]; rfl) ⟨hi, trivial⟩ rfl (by
        have : (AV.val (ca v)).one = true := by
         cases hcv : ca v <;> first | rfl | (rw [hcv] at hone; cases hone)
        simp [AV.cells, a2a, this]) (by have := hev x; rw [hx] at this; exact this) rfl
      obtain ⟨cc, w', ι', hrun, hrel, hd2⟩ := hst
      obtain rfl : ι = ι' := (funext fun b => hd2.ext b (by omega)).symm
      refine ⟨cc, w', ι, by simpa [execOp] using hrun, by simp [rel], ?_⟩
      have hbarr := hd2.br b ⟨_, List.mem_singleton.2 rfl⟩
      rw [a0p] at hbarr
      have hkeep : ∀ g, g < w.heap.size -> g ≠ l.g -> w'.heap[g]? = w.heap[g]? := fun g hg hne => hd2.keep g hg fun b1 k1 l1 hm _ hl1 => by
       simp only [List.mem_singleton, Prod.mk.injEq] at hm
       obtain ⟨rfl, rfl⟩ := hm
       rw [hl] at hl1; cases hl1
       exact Ne.symm hne
      let vals' : Nat -> Value := fun i' => if i' = i then ca v else vals i'
      have hb2 : BR ι w' b (.arr true t0 1 n fun i _ => .val (vals' i)) := by
       rcases hbarr with z | ⟨l2, z1, z2, z3, z4⟩
       ·exact .inl z
       ·refine .inr ⟨l2, z1, z2, fun i' hi' j' hj' => ?_, z4⟩
        obtain ⟨cv, y1, y2, y3⟩ := z3 i' hi' j' hj'
        refine ⟨cv, y1, y2, ?_⟩
        obtain rfl : j' = 0 := by omega
        by_cases hii : i' = i
        ·subst hii
         have : (Nat.ble 0 0 && Nat.ble 1 1) = true := rfl
         simpa [vals', Nat.blt, this] using y3
        ·simpa [vals', hii, b3s hii] using y3
      have hbrw : (bs b).rw = true := by rw [hb]; rfl
      have sepy : ∀ x g, foot ι w b (bs b) x -> (bs y).live = true -> y ≠ b -> (∃ ly, ι y = some ly /\ ly.g = g) -> x ≠ g := fun x g hf1 hly hne ⟨ly, h1, h2⟩ e =>
       hw.sepf b y x (Ne.symm hne) hbrw hly hf1 (by rw [e, <- h2]; exact a1g h1)
      have hyb : g = [(y, .gone)] -> (bs y).plain = true -> y ≠ b := fun _ hp e => by rw [e, hb] at hp; cases hp
      have hIv : ∀ x, InV (ca v) x -> l.g ≠ x /\ ∀ i', i' < n -> i' ≠ i -> ¬ InV (vals i') x := fun x hx => by
       rcases hg with ⟨_, hno⟩ | ⟨g1, g2, g3, g4, g5⟩
       ·exact absurd hx (hno x)
       ·have hne := hyb g1 g3
        refine ⟨sepy _ _ ⟨l, hl, .inl rfl⟩ g4 hne (g5 x hx), fun i' hi' hii hI => ?_⟩
        exact sepy x x ⟨l, hl, .inr (by rw [hb]; exact ⟨i', hi', ho i' hii, (hv2 i' hi' (ho i' hii)).2 l hl x hI⟩)⟩ g4 hne (g5 x hx) rfl
      have hInW : ∀ i' x, i' < n -> i' ≠ i -> InV (vals i') x -> a5n w l i' x := fun i' x hi' hii hI => (hv2 i' hi' (ho i' hii)).2 l hl x hI
      have hRV : ∀ i', i' < n -> RowV ι w' te e (vals' i') (setRow r i q i') := fun i' hi' => by
       by_cases hii : i' = i
       ·subst hii
        simp only [vals', if_true, a2l]
        refine hrow.same (Ext.refl _) fun x hx => hkeep x ?_ (Ne.symm (hIv x hx).1)
        rcases hg with ⟨_, hno⟩ | ⟨g1, g2, g3, g4, g5⟩
        ·exact absurd hx (hno x)
        ·obtain ⟨ly, h1, rfl⟩ := g5 x hx
         exact hw.lt y ly h1
       ·simp only [vals', hii, if_false]
        rw [a4d _ _ hii]
        refine (hv2 i' hi' (ho i' hii)).1.same (Ext.refl _) fun x hx => hkeep x ?_ (Ne.symm (r3 i' x hi' (ho i' hii) (hInW i' x hi' hii hx)).1)
        exact hw.flt b x (a1p hbrw) ⟨l, hl, .inr (by rw [hb]; exact ⟨i', hi', ho i' hii, hInW i' x hi' hii hx⟩)⟩
      obtain ⟨hF, hFI⟩ := a8a (y := 0) hb2 hRV (fun i' g l2 hi' hI hl2 => by
       rw [hl] at hl2; cases hl2
       by_cases hii : i' = i
       ·subst hii; simp only [vals', if_true] at hI; exact (hIv g hI).1
       ·simp only [vals', hii, if_false] at hI; exact (r3 i' g hi' (ho i' hii) (hInW i' g hi' hii hI)).1) (fun i1 i2 g h1 h2 hne hI1 hI2 => by
       by_cases hii : i1 = i
       ·subst hii
        simp only [vals', if_true] at hI1
        simp only [vals', hne, if_false] at hI2
        exact (hIv g hI1).2 i2 h2 hne hI2
       ·simp only [vals', hii, if_false] at hI1
        by_cases hi2 : i2 = i
        ·subst hi2
         simp only [vals', if_true] at hI2
         exact (hIv g hI2).2 i1 h1 hii hI1
        ·simp only [vals', hi2, if_false] at hI2
         exact (r3 i1 g h1 (ho i1 hii) (hInW i1 g h1 hii hI1)).2 i2 h2 (ho i2 hi2) hne (hInW i2 g h2 hi2 hI2))
      generalize hkl : a8q bs b b (range' f 0) = kl
      have hkm : ∀ x q, (x, q) ∈ kl -> q = .gone /\ x ≠ b /\ ∃ c j, bs x = .row c j /\ (c = b \/ c = b) := fun x q hq => a5c (hkl ▸ hq)
      have hgy : ∀ x k, (x, k) ∈ g -> x = y /\ k = .gone /\ g = [(y, .gone)] := fun x k hk => by
       rcases hg with ⟨g1, _⟩ | ⟨g1, _⟩
       ·rw [g1] at hk; simp at hk
       ·rw [g1] at hk; simp at hk; exact ⟨hk.1, hk.2, g1⟩
      have hyp : g = [(y, .gone)] -> (bs y).rw = true /\ (bs y).plain = true /\ y ≠ b := fun g1 => by
       rcases hg with ⟨g0, _⟩ | ⟨_, g2, g3, _⟩
       ·rw [g0] at g1; simp at g1
       ·exact ⟨g2, g3, hyb g1 g3⟩
      generalize hup : (g ++ (b, Blk.fam true t0 te e n (setRow r i q) none 0) :: kl) = up
      have hmem : ∀ x k, (x, k) ∈ up -> (x = y /\ k = .gone /\ g = [(y, .gone)]) \/ (x = b /\ k = .fam true t0 te e n (setRow r i q) none 0) \/ (x, k) ∈ kl := fun x k hk => by
       rw [<- hup] at hk
       simp only [List.mem_append, List.mem_cons, Prod.mk.injEq] at hk
       rcases hk with hk | hk | hk
       ·exact .inl (hgy x k hk)
       ·exact .inr (.inl hk)
       ·exact .inr (.inr hk)
      have ub : a1i bs up b = .fam true t0 te e n (setRow r i q) none 0 := by
       rcases a09 bs up b with ⟨k, h1, h2⟩ | ⟨h1, _⟩
       ·rw [h2]
        rcases hmem b k h1 with ⟨rfl, _, g1⟩ | ⟨_, h3⟩ | h3
        ·exact absurd rfl (hyp g1).2.2
        ·exact h3
        ·exact absurd rfl (hkm b k h3).2.1
       ·exact absurd (by rw [<- hup]; simp) (h1 (.fam true t0 te e n (setRow r i q) none 0))
      have ug : ∀ x k, (x, k) ∈ up -> x ≠ b -> a1i bs up x = .gone := fun x k hk hxb => by
       rcases a09 bs up x with ⟨k2, h1, h2⟩ | ⟨h1, _⟩
       ·rw [h2]
        rcases hmem x k2 h1 with ⟨_, h3, _⟩ | ⟨h3, _⟩ | h3
        ·exact h3
        ·exact absurd h3 hxb
        ·exact (hkm x k2 h3).1
       ·exact absurd hk (h1 k)
      refine DeltaG.step (w := w) ?_ hn hw
      exact {
       ext := fun _ _ => rfl
       br := by
        rintro x ⟨k, hk⟩
        by_cases hxb : x = b
        ·subst hxb; rw [ub]; exact hF
        ·rw [ug x k hk hxb]; trivial
       os := hd2.os
       tape := hd2.tape
       output := hd2.output
       size := hd2.size
       keep := fun g2 hg2 hk => hkeep g2 hg2 fun he => hk b (.fam true t0 te e n (setRow r i q) none 0) (by rw [<- hup]; simp) hbrw (he ▸ a1g hl)
       lt := fun b1 l1 h1 h2 h3 => by rw [(hn b1 h1 h2).1] at h3; cases h3
       orig := fun x k g2 hk hlv hft => by
        by_cases hxb : x = b
        ·subst hxb
         rw [ub] at hft
         obtain ⟨l2, h1, h2⟩ := hft
         rw [hl] at h1; cases h1
         right
         rcases h2 with rfl | ⟨i', h3, _, h4⟩
         ·exact ⟨x, k, hk, hbrw, a1g hl⟩
         ·have hI := hFI l hl i' g2 h3 h4
          by_cases hii : i' = i
          ·subst hii
           simp only [vals', if_true] at hI
           rcases hg with ⟨_, hno⟩ | ⟨g1, q2, q3, q4, q5⟩
           ·exact absurd hI (hno g2)
           ·obtain ⟨ly, h5, rfl⟩ := q5 g2 hI
            exact ⟨y, .gone, by rw [<- hup, g1]; simp, q2, a1g h5⟩
          ·simp only [vals', hii, if_false] at hI
           exact ⟨x, k, hk, hbrw, l, hl, .inr (by rw [hb]; exact ⟨i', h3, ho i' hii, hInW i' g2 h3 hii hI⟩)⟩
        ·rw [ug x k hk hxb] at hlv; cases hlv
       one := fun x x' k k' g2 hne hk hk' hr hlv _ _ => by
        have h1 : x = b := Classical.byContradiction fun h => by rw [ug x k hk h] at hr; cases hr
        have h2 : x' = b := Classical.byContradiction fun h => by rw [ug x' k' hk' h] at hlv; cases hlv
        exact absurd (h1.trans h2.symm) hne
       rwn := fun x k hk hlv => by
        rcases hmem x k hk with ⟨_, rfl, _⟩ | ⟨_, rfl⟩ | h
        ·cases hlv
        ·rfl
        ·rw [(hkm x k h).1] at hlv; cases hlv
       upr := fun x k hk => by
        rcases hmem x k hk with ⟨rfl, _, g1⟩ | ⟨rfl, _⟩ | h
        ·exact .inr (.inl (hyp g1).1)
        ·exact .inr (.inl hbrw)
        ·obtain ⟨_, _, c, j, h2, _⟩ := hkm x k h
         exact .inr (.inr ⟨c, j, h2⟩)
       als := fun x c j hx' => by
        have hx0 : ∀ k, (x, k) ∉ up := fun k hk => by
         by_cases hxb : x = b
         ·subst hxb; rw [ub] at hx'; cases hx'
         ·rw [ug x k hk hxb] at hx'; cases hx'
        have hbx : bs x = .row c j := by
         rcases a09 bs up x with ⟨k, h1, _⟩ | ⟨_, h2⟩
         ·exact absurd h1 (hx0 k)
         ·rw [<- h2]; exact hx'
        have hxf : x < f := by
         rcases Nat.lt_or_ge x f with h | h
         ·exact h
         ·rw [hf x h] at hbx; cases hbx
        have hcb : c ≠ b := fun e => by
         have hxb : x ≠ b := fun e => by rw [e, hb] at hbx; cases hbx
         exact hx0 .gone (by rw [<- hup, <- hkl]; exact List.mem_append_right _ (List.mem_cons_of_mem _ (a9f (a6t f x hxf) hbx (.inl e) hxb)))
        obtain ⟨l2, g1, g2, _⟩ := hw.als x c j hbx
        by_cases hck : ∃ k, (c, k) ∈ up
        ·obtain ⟨k, hk⟩ := hck
         have hgo := ug c k hk hcb
         exact .inr ⟨l2, g1, (by rw [hgo]; intro h; cases h), fun _ _ _ _ _ _ _ _ h => by rw [hgo] at h; cases h⟩
        ·exact .inl ⟨hx0, fun k hk => hck ⟨k, hk⟩⟩ }
     ·cases h
    ·cases h
   ·cases h
  ·cases h
 ·rename_i c
  split at h
  ·rename_i s x t t' hce hargs htys
   obtain ⟨callee, args, argTypes⟩ := c
   simp only at hce hargs htys
   subst hce
   obtain rfl : args = #[s, x] := by cases args; simp_all
   obtain rfl : argTypes = #[t, t'] := by cases argTypes; simp_all
   split at h
   ·rename_i z cap hx
    split at h
    ·rename_i rz tz cz hz
     split at h
     ·rename_i te _ _ _ _ hd1
      split at h
      ·rename_i te0 te2 by_ zv eqq hde
       split at h
       ·rename_i d2 _ hd2 hchk
        obtain ⟨hchk, _⟩ := a02 hchk
        simp only [Bool.and_eq_true] at hchk
        obtain rfl := Nat.eq_of_beq_eq_true hchk.1
        have hby : 0 < by_ := Nat.le_of_ble_eq_true hchk.2.1
        obtain rfl := Nat.eq_of_beq_eq_true hchk.2.2
        have hb0 : Nat.beq by_ 0 = false := b3s (by omega)
        split at h
        ·rename_i p q g y hra
         have hbz := hw.br z
         rw [hz] at hbz
         obtain ⟨u, hu1, hu2, hu3⟩ := c92 hbz
         have hu := a2r (Tab.get_ok hT hd1) rfl
         have e1 : (execOp ca { dst := dst, op := .call { callee := .builtin .append, args := #[s, x], argTypes := #[t, t] }, type := ty, pos := pos, after := after, guard := guard }).run P w =
           ((do pure (.value (<- Builtin.append_ #[t, t] ty #[ca s, ca x])) : Sem Next).run P w) := by
          simp [execOp, resolve, invoke, builtin]
         have hzf : z ≠ f := fun e => by rw [e, hf f (Nat.le_refl _)] at hz; cases hz
         split at h
         ·rename_i hs
          simp only [Option.some.injEq] at h
          subst h
          obtain ⟨hp1, hp⟩ := hp
          obtain ⟨hrow, hone, hg, hyu⟩ := b0b hw hu1 hra hp
          have hff2 : f + 1 <= f' := hff
          have hx0 := hev x
          rw [hx] at hx0
          have hs0 := hev s
          rw [hs] at hs0
          obtain ⟨cc, w', ι', hrun, hrel, hd⟩ := b0x (P := P) (w := w) (ι := ι) (bs := fun x => if x = z then .arr rz tz 1 1 (fun _ _ => .val u) else .gone) (f := f) (f' := f')
           (fun b h1 h2 => ⟨(hn b h1 h2).1, if_neg (fun e => by subst e; rw [hf b h1] at hz; cases hz)⟩) (by omega)
           (fun b => by
            by_cases hbz : b = z
            ·subst hbz; simp only [if_true]; exact hu3
            ·simp only [hbz, if_false]; trivial) hw.lt (Tab.get_ok hT hde) hu hs0 hx0
           (p := (1 * by_ <= 140737488355328) :: [0 + 1 <= 1]) (v := .sl f 1 0 1 none) (up := [(f, .arr true te0 1 1 fun i j => .val u)]) (by simp [b02, b3l, hb0, Nat.beq]) ⟨hp1, Nat.le_refl _, trivial⟩ ty
          refine ⟨cc, w', ι', by rw [e1]; exact hrun, hrel, ?_⟩
          have hbf := hd.br f ⟨_, List.mem_singleton.2 rfl⟩
          rw [a0p] at hbf
          have hyf : g ≠ [] -> g = [(y, .gone)] /\ bs y ≠ .gone /\ f ≠ y := fun hne => by
           rcases hg with ⟨g1, _⟩ | ⟨g1, g2, _⟩
           ·exact absurd g1 hne
           ·have : bs y ≠ .gone := fun e => by rw [e] at g2; cases g2
            exact ⟨g1, this, fun e => this (e ▸ hf f (Nat.le_refl _))⟩
          refine Step.nmOf (rw' := true) (t := te0) (te := te2) (e := d2.sz) (y0 := 0) (n := 1) (r := setRow (fun _ => q) 0 q) (u := u) ?_ hyu (fun hne => ?_) ?_ (by omega) (by rw [a2l]) ?_
          rotate_left
          ·obtain ⟨g1, g2, _⟩ := hyf hne
           refine ⟨?_, g2⟩
           rw [g1]; exact a0p _ _ _ _
          ·by_cases hne : g = []
           ·rw [hne]; exact a0p _ _ _ _
           ·obtain ⟨g1, _, g3⟩ := hyf hne
            rw [g1]
            exact (a0w _ _ _ _ g3).trans (a0p _ _ _ _)
          ·rcases hbf with ⟨z, _⟩ | ⟨l2, z1, z2, z3, z4⟩
           ·cases z
           ·obtain ⟨cv, y1, _, y3⟩ := z3 0 (by omega) 0 (by omega)
            simp only [rel] at y3
            subst y3
            exact ⟨l2, z1, y1⟩
          refine c05 (te := te0) (ob := none) (n := 0) (y := y) (vals := fun _ => u) (u := u) (g := g) (r := fun _ => q) hw hn hf (by omega) (fun b h => by cases h) (fun _ => rfl) (fun b h => by cases h) hrow hg hd.ext hd.os hd.tape hd.output hd.size (fun g2 hg2 _ => hd.keep g2 hg2 fun b k l hm hr _ => ?_) hd.lt (fun lf hlf => ?_) ?_ (fun x k hk => ?_) ?_ (fun b h => by cases h) (fun g1 => ?_) (fun x c j _ h => by cases h)
          ·simp only [List.mem_singleton, Prod.mk.injEq] at hm
           rw [hm.1, if_neg (Ne.symm hzf)] at hr; cases hr
          ·rcases hd.fresh f lf (Nat.le_refl _) (by omega) (by rw [a0p]; rfl) hlf with h1 | ⟨b0, l0, h1, _⟩
           ·exact .inl h1
           ·simp at h1
          ·simpa using hbf
          ·simp only [List.mem_append, List.mem_singleton, Prod.mk.injEq] at hk
           rcases hk with hk | hk
           ·rcases hg with ⟨g1, _⟩ | ⟨g1, _⟩
            ·rw [g1] at hk; simp at hk
            ·rw [g1] at hk; simp at hk; exact .inr (.inl ⟨hk.1, hk.2, g1⟩)
           ·exact .inr (.inr (.inl hk))
          ·simp
          ·rw [g1]; simp
         ·rename_i b len hs
          split at h
          ·rename_i t0 te' e n r y0 hb
           obtain ⟨hq, h⟩ := a02 h
           subst h
           simp only [Bool.and_eq_true] at hq
           obtain rfl := Nat.eq_of_beq_eq_true hq.1
           obtain rfl := Nat.eq_of_beq_eq_true hq.2.1
           obtain rfl := Nat.eq_of_beq_eq_true hq.2.2
           obtain ⟨hnl, hp1, hp⟩ := hp
           have hnl : n = len := hnl
           subst hnl
           obtain ⟨hrow, hone, hg, hyu⟩ := b0b hw hu1 hra hp
           have hff2 : f + 1 <= f' := hff
           have hx0 := hev x
           rw [hx] at hx0
           have hs0 := hev s
           rw [hs] at hs0
           have hbr := hw.br b
           rw [hb] at hbr
           obtain ⟨vals, hv1, hv2⟩ := c9z hbr
           have hbz : z ≠ b := fun e => by rw [e, hb] at hz; cases hz
           have hbf' : b ≠ f := fun e => by rw [e, hf f (Nat.le_refl _)] at hb; cases hb
           have hgone : ∀ b1, f <= b1 -> b1 ≠ b /\ b1 ≠ z := fun b1 h1 => ⟨(fun e => by subst e; rw [hf b1 h1] at hb; cases hb), (fun e => by subst e; rw [hf b1 h1] at hz; cases hz)⟩
           obtain ⟨cc, w', ι', hrun, hrel, hd⟩ := b0x (P := P) (w := w) (ι := ι) (bs := fun x => if x = b then .arr true t0 1 n (fun i _ => .val (vals i)) else if x = z then .arr rz tz 1 1 (fun _ _ => .val u) else .gone) (f := f) (f' := f')
            (fun b1 h1 h2 => ⟨(hn b1 h1 h2).1, by simp only [(hgone b1 h1).1, (hgone b1 h1).2, if_false]⟩) (by omega)
            (fun b1 => by
             by_cases h1 : b1 = b
             ·subst h1; simp only [if_true]; exact hv1
             ·by_cases h2 : b1 = z
              ·subst h2; simp only [h1, if_true, if_false]; exact hu3
              ·simp only [h1, h2, if_false]; trivial) hw.lt (Tab.get_ok hT hde) hu hs0 hx0
            (p := (n = n) :: ((n + 1) * by_ <= 140737488355328) :: [0 + 1 <= 1]) (v := .sl f 1 0 (n + 1) none) (up := [(b, .gone), (f, .arr true t0 1 (n + 1) (b09 n (fun i _ => .val (vals i)) (fun i j => .val u)))])
            (by simp [b02, b3l, hb0, hbz, Nat.beq]) ⟨rfl, hp1, Nat.le_refl _, trivial⟩ ty
           refine ⟨cc, w', ι', by rw [e1]; exact hrun, hrel, ?_⟩
           have hbf := hd.br f ⟨_, List.mem_cons_of_mem _ (List.mem_cons_self ..)⟩
           rw [a0w _ _ _ _ (Ne.symm hbf'), a0p] at hbf
           have ho : ∀ i : Nat, (none : Option Nat) ≠ some i := fun i e => by cases e
           have hyf : g ≠ [] -> g = [(y, .gone)] /\ bs y ≠ .gone /\ f ≠ y /\ y ≠ b := fun hne => by
            rcases hg with ⟨g1, _⟩ | ⟨g1, g2, g3, _⟩
            ·exact absurd g1 hne
            ·have : bs y ≠ .gone := fun e => by rw [e] at g2; cases g2
             exact ⟨g1, this, (fun e => this (e ▸ hf f (Nat.le_refl _))), fun e => by rw [e, hb] at g3; cases g3⟩
           refine Step.nmOf (rw' := true) (t := t0) (te := te') (e := d2.sz) (y0 := 0) (n := n + 1) (r := setRow r n q) (u := u) ?_ hyu (fun hne => ?_) ?_ (by omega) (by rw [a2l]) ?_
           rotate_left
           ·obtain ⟨g1, g2, _, g4⟩ := hyf hne
            refine ⟨?_, g2⟩
            rw [g1]; exact (a0w _ _ _ _ g4).trans (a0p _ _ _ _)
           ·refine (a0w _ _ _ _ (Ne.symm hbf')).trans ?_
            by_cases hne : g = []
            ·rw [hne]; exact a0p _ _ _ _
            ·obtain ⟨g1, _, g3, _⟩ := hyf hne
             rw [g1]
             exact (a0w _ _ _ _ g3).trans (a0p _ _ _ _)
           ·rcases hbf with ⟨z, _⟩ | ⟨l2, z1, z2, z3, z4⟩
            ·cases z
            ·obtain ⟨cv, y1, _, y3⟩ := z3 n (by omega) 0 (by omega)
             rw [a8f (Nat.le_refl _)] at y3
             simp only [rel] at y3
             subst y3
             rw [Nat.mul_one, Nat.add_zero] at y1
             exact ⟨l2, z1, y1⟩
           refine c05 (te := t0) (ob := some b) (n := n) (y := y) (vals := vals) (u := u) (g := g) (r := r) hw hn hf (by omega) (fun b' h => by cases h; exact ⟨t0, y0, hb⟩) (fun h => by cases h) (fun b' h i hi => by cases h; exact hv2 i hi (ho i)) hrow hg hd.ext hd.os hd.tape hd.output hd.size (fun g2 hg2 hk => hd.keep g2 hg2 fun b1 k l hm hr hl => ?_) hd.lt (fun lf hlf => ?_) ?_ (fun x k hk => ?_) ?_ (fun b' h => ?_) (fun g1 => ?_) (fun x c j hxc h => ?_)
           ·simp only [List.mem_cons, Prod.mk.injEq, List.not_mem_nil, or_false] at hm
            rcases hm with ⟨rfl, _⟩ | ⟨rfl, _⟩
            ·exact hk b1 l rfl hl
            ·simp only [(hgone b1 (Nat.le_refl _)).1, (hgone b1 (Nat.le_refl _)).2, if_false] at hr; cases hr
           ·rcases hd.fresh f lf (Nat.le_refl _) (by omega) (by rw [a0w _ _ _ _ (Ne.symm hbf'), a0p]; rfl) hlf with h1 | ⟨b0, l0, h1, _, _, h3, h4⟩
            ·exact .inl h1
            ·simp at h1; subst h1; exact .inr ⟨b0, l0, rfl, h3, h4⟩
           ·rcases hbf with z0 | ⟨l2, z1, z2, z3, z4⟩
            ·exact .inl z0
            ·refine .inr ⟨l2, z1, z2, fun i' hi' j' hj' => ?_, z4⟩
             obtain ⟨cv, y1, y2, y3⟩ := z3 i' hi' j' hj'
             refine ⟨cv, y1, y2, ?_⟩
             by_cases h : i' = n
             ·subst h
              rw [a8f (Nat.le_refl _)] at y3
              simpa using y3
             ·rw [b2e (by omega)] at y3
              simpa [h] using y3
           ·simp only [List.mem_cons, List.mem_append, Prod.mk.injEq] at hk
            rcases hk with ⟨rfl, rfl⟩ | hk | hk | hk
            ·exact .inl ⟨rfl, rfl⟩
            ·rcases hg with ⟨g1, _⟩ | ⟨g1, _⟩
             ·rw [g1] at hk; simp at hk
             ·rw [g1] at hk; simp at hk; exact .inr (.inl ⟨hk.1, hk.2, g1⟩)
            ·exact .inr (.inr (.inl hk))
            ·obtain ⟨k1, _, c, j, k2, _⟩ := a5c hk
             exact .inr (.inr (.inr ⟨k1, c, j, k2⟩))
           ·simp
           ·cases h; simp
           ·rw [g1]; simp
           ·cases h
            have hxb : x ≠ b := fun e => by rw [e, hb] at hxc; cases hxc
            have hxf : x < f := by
             rcases Nat.lt_or_ge x f with h | h
             ·exact h
             ·rw [hf x h] at hxc; cases hxc
            exact ⟨.gone, List.mem_cons_of_mem _ (List.mem_append_right _ (List.mem_cons_of_mem _ (a9f (a6t f x hxf) hxc (.inl rfl) hxb)))⟩
          ·cases h
         ·cases h
        ·cases h
       ·cases h
      ·cases h
     ·cases h
    ·cases h
   ·cases h
  ·cases h
 ·cases h
theorem c3p {T : Tab} {op : Op} {ev : Operand -> AV} {bs : Nat -> Blk} {f : Nat} {d : FamD} (h : b13 T op ev bs f = some d) : f <= d.f' := by
 unfold b13 at h
 repeat' (split at h)
 all_goals first
  | (cases h; done)
  | (simp only [Option.some.injEq] at h; subst h; simp only; omega)
  | (obtain ⟨_, h⟩ := a02 h; subst h; simp only; omega)
theorem b9e {T : Tab} {op : Op} {ev : Operand -> AV} {bs : Nat -> Blk} {f : Nat} {d : FamD} (h : b0n T op ev bs f = some d) : f <= d.f' := by
 unfold b0n at h
 repeat' (split at h)
 all_goals first
  | (cases h; done)
  | (simp only [Option.some.injEq] at h; subst h; simp only; omega)
  | (obtain ⟨_, h⟩ := a02 h; subst h; simp only; omega)
theorem b73 {op : Op} {ev : Operand -> AV} {bs : Nat -> Blk} {f : Nat} {tk : List (Nat × Blk)} (h : b8b op ev bs f = some tk) : ∃ y, b0o bs f y = some tk := by
 unfold b8b at h
 repeat' (split at h)
 all_goals first
  | (cases h; done)
  | exact ⟨_, h⟩
end Go.Vx
namespace Go.Vx
def Fits (bs : Nat -> Blk) (b : Nat) (l : List Nat) (o : OP) : Prop :=
 ∀ (ι : Lay) (w : World), (∀ x, BR ι w x (bs x)) -> (∀ x y g, x ≠ y -> (bs x).rw = true -> (bs y).live = true -> foot ι w x (bs x) g -> foot ι w y (bs y) g -> False) ->
  (∀ x g, (bs x).live = true -> foot ι w x (bs x) g -> g < w.heap.size) -> ∃ lc fp, ι b = some lc /\ (lc.o = 0 /\ 1 <= lc.n) /\ o.P w lc fp /\ ∀ x, fp x -> ∃ y, y ∈ b :: l /\ foot ι w y (bs y) x
def a3q (b : Nat) (l : List Nat) (o : OP) : List (Nat × Blk) := (b, .obj o) :: l.map fun x => (x, .gone)
def c0a (bs : Nat -> Blk) (b : Nat) (l : List Nat) : Bool := l.all (fun x => !Nat.beq x b) && (b :: l).all fun x => (bs x).rw && (bs x).flat
theorem b94 {E : Amb} {ι : Lay} {bs : Nat -> Blk} {b F : Nat} {l : List Nat} {o : OP} {w : World} (hw : WR E ι bs w) (hB : c0a bs b l = true) (hF : Fits bs b l o) : Step E ι bs F F ι (a3q b l o) w := by
 simp only [c0a, Bool.and_eq_true, List.all_eq_true, Bool.not_eq_true'] at hB
 obtain ⟨hb, hall0⟩ := hB
 have hall : ∀ x, x ∈ b :: l -> (bs x).rw = true /\ (bs x).flat = true := fun x hx => by simpa using hall0 x hx
 have hbl : ∀ x, x ∈ l -> x ≠ b := fun x hx e => by have := hb x hx; rw [e, Nat.beq_refl] at this; cases this
 obtain ⟨lc, fp, hl, ho, hP, hfp⟩ := hF ι w hw.br hw.sepf hw.flt
 have ub : a1i bs (a3q b l o) b = .obj o := a0p ..
 have hmem : ∀ x q, (x, q) ∈ a3q b l o -> x ∈ b :: l := fun x q hq => by
  simp only [a3q, List.mem_cons, Prod.mk.injEq, List.mem_map] at hq
  rcases hq with ⟨e, _⟩ | ⟨y, hy, e, _⟩
  ·exact List.mem_cons.2 (.inl e)
  ·exact List.mem_cons.2 (.inr (e ▸ hy))
 have ux : ∀ x, x ∈ l -> a1i bs (a3q b l o) x = .gone := fun x hx => by
  rcases a09 bs (a3q b l o) x with ⟨k, h1, h2⟩ | ⟨h1, _⟩
  ·rw [h2]
   simp only [a3q, List.mem_cons, Prod.mk.injEq, List.mem_map] at h1
   rcases h1 with ⟨e, _⟩ | ⟨y, _, _, e⟩
   ·exact absurd e (hbl x hx)
   ·exact e.symm
  ·exact absurd (List.mem_cons_of_mem _ (List.mem_map.2 ⟨x, hx, rfl⟩)) (h1 .gone)
 have hin : ∀ x, x ∈ b :: l -> ∃ k, (x, k) ∈ a3q b l o := fun x hx => by
  rcases List.mem_cons.1 hx with rfl | hx
  ·exact ⟨_, List.mem_cons_self ..⟩
  ·exact ⟨.gone, List.mem_cons_of_mem _ (List.mem_map.2 ⟨x, hx, rfl⟩)⟩
 have live : ∀ x q, (x, q) ∈ a3q b l o -> (a1i bs (a3q b l o) x).live = true -> x = b := fun x q hq hlv => by
  rcases List.mem_cons.1 (hmem x q hq) with e | e
  ·exact e
  ·rw [ux x e] at hlv; cases hlv
 have footb : ∀ g, foot ι w b (.obj o) g -> ∃ y, y ∈ b :: l /\ foot ι w y (bs y) g := fun g hg => by
  obtain ⟨l2, h1, h2⟩ := hg
  rw [hl] at h1; cases h1
  rcases h2 with rfl | ⟨fp', h3, h4⟩
  ·exact ⟨b, List.mem_cons_self .., a1g hl⟩
  ·exact hfp g (o.prec w lc lc fp' fp h3 hP rfl g h4)
 refine DeltaG.step (w := w) (w' := w) ?_ (fun b h1 h2 => by omega) hw
 exact {
  ext := fun _ _ => rfl
  br := by
   rintro x ⟨q, hq⟩
   rcases List.mem_cons.1 (hmem x q hq) with rfl | e
   ·rw [ub]; exact ⟨lc, hl, ho, fp, hP⟩
   ·rw [ux x e]; trivial
  os := rfl
  tape := rfl
  output := rfl
  size := Nat.le_refl _
  keep := fun _ _ _ => rfl
  lt := fun _ _ h1 h2 => by omega
  orig := fun x q g hq hlv hft => by
   have e := live x q hq hlv
   subst e
   rw [ub] at hft
   obtain ⟨y, hy, h1⟩ := footb g hft
   obtain ⟨k, hk⟩ := hin y hy
   exact .inr ⟨y, k, hk, (hall y hy).1, h1⟩
  one := fun x x' q q' g hne hq hq' hr hlv h1 h2 => by
   exact hne ((live x q hq (a1p hr)).trans (live x' q' hq' hlv).symm)
  rwn := fun x q hq hlv => by
   simp only [a3q, List.mem_cons, Prod.mk.injEq, List.mem_map] at hq
   rcases hq with ⟨_, rfl⟩ | ⟨y, _, _, rfl⟩
   ·rfl
   ·cases hlv
  upr := fun x q hq => .inr (.inl (hall x (hmem x q hq)).1)
  als := fun x c j hx => by
   have hxn : ∀ q, (x, q) ∉ a3q b l o := fun q hq => by
    rcases List.mem_cons.1 (hmem x q hq) with rfl | e
    ·rw [ub] at hx; cases hx
    ·rw [ux x e] at hx; cases hx
   have hxb : bs x = .row c j := by
    rcases a09 bs (a3q b l o) x with ⟨k', h1, _⟩ | ⟨_, h2⟩
    ·exact absurd h1 (hxn k')
    ·rw [<- h2]; exact hx
   obtain ⟨_, _, g2, _⟩ := hw.als x c j hxb
   refine .inl ⟨hxn, fun q hq => ?_⟩
   have h3 := hall c (hmem c q hq)
   have h4 := g2 (a1p h3.1)
   rw [h3.2] at h4; cases h4 }
end Go.Vx
namespace Go.Vx
structure St where
  tm : Nat -> AV
  bs : Nat -> Blk
  f : Nat
def cv : Value -> AV
  | .agg cs => bif cs.toList.all Value.oneCell' then .agg (cs.toList.map .val) else .dead
  | .tuple cs => .tup (cs.toList.map .val)
  | v => .val v
def St.ev (s : St) : Operand -> AV
  | .tmp t => s.tm t
  | .const v => cv v
  | .func f => .fn (.func f) []
  | .global g => .val (.pointer (some ⟨g, 0, none⟩))
def b7y (tm : Nat -> AV) (d : Nat) (v : AV) : Nat -> AV := fun t => bif Nat.beq t d then v else tm t
def frL : List (Nat × AV) -> Nat -> AV
  | [], _ => .dead
  | (d, v) :: r, t => bif Nat.beq t d then v else frL r t
def blL : List Blk -> Nat -> Blk
  | [], _ => .gone
  | k :: _, 0 => k
  | _ :: r, b + 1 => blL r b
def b4i : List AV -> Nat -> AV
  | [], _ => .dead
  | v :: _, 0 => v
  | _ :: r, b + 1 => b4i r b
abbrev Ix := List (Option Nat)
def Ix.at (xs : Ix) (b : Nat) : Option Nat := match xs[b]? with | some (some x) => some x | _ => none
mutual
def sub (ρ : Nat -> Option Nat) : AV -> AV -> Prop
  | .dead, _ => True
  | .val v, y => y = .val v
  | .sb b, y => y = .sb b \/ y = .val (.bool b)
  | .ptr b e i j, y => ∃ x, ρ b = some x /\ y = .ptr x e i j
  | .sl b e off len cap, y => (∃ x, ρ b = some x /\ y = .sl x e off len cap) \/ (len = 0 /\ y = .val (.slice none 0 0) /\ (cap = none \/ cap = some 0))
  | .fn f caps, y => ∃ cs, y = .fn f cs /\ a4w ρ caps cs
  | .bfn f first caps, y => ∃ fs cs, y = .bfn f fs cs /\ a4w ρ first fs /\ a4w ρ caps cs
  | .agg vs, y => ∃ cs, y = .agg cs /\ a4w ρ vs cs
  | .tup vs, y => ∃ cs, y = .tup cs /\ a4w ρ vs cs
  | .map b, y => ∃ x, ρ b = some x /\ y = .map x
  | .rsl _ _ e len h, y => ∃ y' i', y = .rsl y' i' e len h
  | .rptr _ _ e x j h, y => ∃ y' i', y = .rptr y' i' e x j h
  | .ifc t v, y => ∃ u, y = .ifc t u /\ sub ρ v u
def a4w (ρ : Nat -> Option Nat) : List AV -> List AV -> Prop
  | [], ys => ys = []
  | x :: r, ys => ∃ y r', ys = y :: r' /\ sub ρ x y /\ a4w ρ r r'
end
def b2r : List Nat -> Nat -> (Nat -> Prop) -> Prop
  | [], n, K => K n
  | x :: r, n, K => match Nat.beq n x with
    | true => K x
    | false => b2r r n K
theorem b0u : ∀ (l : List Nat) (n : Nat) (K : Nat -> Prop), b2r l n K ↔ K n
  | [], _, _ => Iff.rfl
  | x :: r, n, K => by
    simp only [b2r]
    cases h : Nat.beq n x with
    | true => rw [Nat.eq_of_beq_eq_true h]
    | false => exact b0u r n K
def b0e (n : Nat) (K : Nat -> Prop) : Prop := b2r [0, 1, 2, 3, 4, 5, 6, 7, 8, 9, 10, 11, 12, 13, 14, 15, 16, 17, 18, 19, 20, 21, 22, 23, 24, 25, 26, 27, 28, 29, 30, 31, 32, 33, 34, 35, 36, 37, 38, 39, 40, 41, 42, 43, 44, 45, 46, 47, 48, 49, 50, 51, 52, 53, 54, 55, 56, 57, 58, 59, 60, 61, 62, 63] n K
theorem a1d (n : Nat) (K : Nat -> Prop) : b0e n K ↔ K n := b0u _ n K
def a4z : List AV -> (List AV -> Prop) -> Prop
  | [], K => K []
  | v :: r, K => a4z r fun r' => match v with
    | .dead => K (.dead :: r')
    | .val (.int k n) => K (.val (.int k n) :: r')
    | .val (.bool b) => K (.val (.bool b) :: r')
    | .val u => K (.val u :: r')
    | .sb b => K (.sb b :: r')
    | .ptr b e i j => K (.ptr b e i j :: r')
    | .sl b e off len cap => K (.sl b e off len cap :: r')
    | .fn f caps => K (.fn f caps :: r')
    | .bfn f first caps => K (.bfn f first caps :: r')
    | .agg vs => K (.agg vs :: r')
    | .tup vs => K (.tup vs :: r')
    | .map b => K (.map b :: r')
    | .rsl y i e len h => K (.rsl y i e len h :: r')
    | .rptr y i e x j h => K (.rptr y i e x j h :: r')
    | .ifc t v => K (.ifc t v :: r')
theorem a2i : ∀ (l : List AV) (K : List AV -> Prop), a4z l K ↔ K l
  | [], K => Iff.rfl
  | v :: r, K => by
    simp only [a4z]
    rw [a2i r]
    cases v with
    | val u => cases u <;> rfl
    | _ => rfl
def a99 (v : AV) (K : AV -> Prop) : Prop := match v with
  | .dead => K .dead
  | .val (.int k n) => K (.val (.int k n))
  | .val (.bool b) => K (.val (.bool b))
  | .val u => K (.val u)
  | .sb b => K (.sb b)
  | .ptr b e i j => K (.ptr b e i j)
  | .sl b e off len cap => K (.sl b e off len cap)
  | .fn f caps => K (.fn f caps)
  | .bfn f first caps => K (.bfn f first caps)
  | .agg vs => a4z vs fun vs => K (.agg vs)
  | .tup vs => a4z vs fun vs => K (.tup vs)
  | .map b => K (.map b)
  | .rsl y i e len h => K (.rsl y i e len h)
  | .rptr y i e x j h => K (.rptr y i e x j h)
  | .ifc t v => a4z [v] fun vs => match vs with
    | v :: _ => K (.ifc t v)
    | [] => False
theorem a1c (v : AV) (K : AV -> Prop) : a99 v K ↔ K v := by
  cases v with
  | val u => cases u <;> rfl
  | agg vs => exact a2i vs _
  | tup vs => exact a2i vs _
  | ifc t v => exact a2i [v] (fun vs => match vs with
    | v :: _ => K (.ifc t v)
    | [] => False)
  | _ => rfl
def b0i : List (Nat × Blk) -> (List (Nat × Blk) -> Prop) -> Prop
  | [], K => K []
  | (b, k) :: r, K => b0i r fun r' => match k with
    | .gone => K ((b, .gone) :: r')
    | .var cs => a4z cs fun cs => K ((b, .var cs) :: r')
    | .arr rw t e n c => K ((b, .arr rw t e n c) :: r')
    | .map ka ks c => K ((b, .map ka ks c) :: r')
    | .mapg ka ks c es clock => K ((b, .mapg ka ks c es clock) :: r')
    | .iter m ka es clock S last => K ((b, .iter m ka es clock S last) :: r')
    | .fam rw t te e n r0 o y => K ((b, .fam rw t te e n r0 o y) :: r')
    | .row c i => K ((b, .row c i) :: r')
    | .rows rw e n hd r0 => K ((b, .rows rw e n hd r0) :: r')
    | .obj o => K ((b, .obj o) :: r')
theorem a1f : ∀ (l : List (Nat × Blk)) (K : List (Nat × Blk) -> Prop), b0i l K ↔ K l
  | [], K => Iff.rfl
  | (b, k) :: r, K => by
    simp only [b0i]
    rw [a1f r]
    cases k with
    | var cs => exact a2i cs _
    | _ => rfl
def c3z (k : Blk) (K : Blk -> Prop) : Prop := match k with
  | .gone => K .gone
  | .var cs => a4z cs fun cs => K (.var cs)
  | .arr rw t e n c => K (.arr rw t e n c)
  | .map ka ks c => K (.map ka ks c)
  | .mapg ka ks c es clock => K (.mapg ka ks c es clock)
  | .iter m ka es clock S last => K (.iter m ka es clock S last)
  | .fam rw t te e n r o y => K (.fam rw t te e n r o y)
  | .row b i => K (.row b i)
  | .rows rw e n hd r => K (.rows rw e n hd r)
  | .obj o => K (.obj o)
theorem b1j (k : Blk) (K : Blk -> Prop) : c3z k K ↔ K k := by
  cases k with
  | var cs => exact a2i cs _
  | _ => rfl
def a3n (ρ : Nat -> Option Nat) : Blk -> Blk -> Prop
  | .gone, _ => True
  | .var cs, k => ∃ cs', k = .var cs' /\ a4w ρ cs cs'
  | .arr rw t e n c, k => (∃ rw' t' n' c', (k = .arr rw' t' e n' c' /\ n <= n') /\ (rw = true -> rw' = true /\ t = t') /\ ∀ i, i < n -> ∀ j, j < e -> sub ρ (c i j) (c' i j)) \/
    (rw = false /\ n = 1 /\ ∃ cs', k = .var cs' /\ ∀ j, j < e -> ∃ v, cs'[j]? = some v /\ sub ρ (c 0 j) v)
  | .map ka ks c, k => ∃ ks' c', k.asMap = some (ka, ks', c') /\ ks' = ks /\ ∀ x ∈ ks, sub ρ (c x) (c' x)
  | .mapg ka ks c es clock, k => ∃ c', k = .mapg ka ks c' es clock /\ ∀ x ∈ ks, sub ρ (c x) (c' x)
  | .iter m ka es clock S last, k => ∃ m' last', ρ m = some m' /\ k = .iter m' ka es clock S last' /\ (last = none \/ last = last')
  | .fam rw t te e n r o y, k => ∃ rw' t' te' r' y', (k = .fam rw' t' te' e n r' o y' /\ (o = none \/ ρ y = some y')) /\ (rw = true -> rw' = true /\ t = t' /\ te = te') /\ (∀ i, i < n -> o = some i -> (r i).1 = (r' i).1) /\ ∀ i, i < n -> o ≠ some i -> (r i).1 = (r' i).1 /\ ∀ x, x < (r i).1 -> ∀ j, j < e -> sub ρ ((r i).2 x j) ((r' i).2 x j)
  | .row b i, k => ∃ b' i', ρ b = some b' /\ k = .row b' i' /\ i' = i
  | .rows rw e n hd r, k => ∃ rw' n' hd' r', k = .rows rw' e n' hd' r' /\ (rw = true -> rw' = true) /\ ∀ i, i < n -> ∃ i', i' < n' /\ hd i = hd' i' /\ (r i).1 = (r' i').1 /\ ∀ x, x < (r i).1 -> ∀ j, j < e -> (r i).2 x j = (r' i').2 x j
  | .obj o, k => ∃ o', k = .obj o' /\ o = o'
def b61 : Blk -> Prop
  | .gone => True
  | .arr _ _ _ n _ => n = 0
  | .var _ => False
  | .map .. => False
  | .mapg .. => False
  | .iter .. => False
  | .fam _ _ _ _ n _ o _ => n = 0 /\ o = none
  | .row .. => False
  | .rows _ _ n _ _ => n = 0
  | .obj _ => False
def a4x (ρ : Nat -> Option Nat) (bs : Nat -> Blk) : Ix -> List Blk -> Prop
  | [], [] => True
  | none :: xs, k :: ks => b61 k /\ a4x ρ bs xs ks
  | some x :: xs, k :: ks => c3z (bs x) (fun k' => stop (a3n ρ k k')) /\ a4x ρ bs xs ks
  | _, _ => False
def b74 (x : Nat) : Ix -> Bool
  | [] => true
  | none :: r => b74 x r
  | some y :: r => !Nat.beq x y && b74 x r
def Ix.nodup : Ix -> Bool
  | [] => true
  | none :: r => Ix.nodup r
  | some x :: r => b74 x r && Ix.nodup r
def a5e : Ix -> List Blk -> Ix
  | x :: r, k :: ks => (match k with
    | .gone => none
    | .row _ _ => none
    | _ => x) :: a5e r ks
  | _, _ => []
mutual
def AV.ren (ρ : Nat -> Nat) : AV -> AV
  | .dead => .dead
  | .val v => .val v
  | .sb b => .sb b
  | .ptr b e i j => .ptr (ρ b) e i j
  | .sl b e off len cap => .sl (ρ b) e off len cap
  | .fn f caps => .fn f (b7m ρ caps)
  | .bfn f first caps => .bfn f (b7m ρ first) (b7m ρ caps)
  | .agg vs => .agg (b7m ρ vs)
  | .tup vs => .tup (b7m ρ vs)
  | .map b => .map (ρ b)
  | .rsl y i e len h => .rsl (ρ y) i e len h
  | .rptr y i e x j h => .rptr (ρ y) i e x j h
  | .ifc t v => .ifc t (v.ren ρ)
def b7m (ρ : Nat -> Nat) : List AV -> List AV
  | [] => []
  | v :: r => v.ren ρ :: b7m ρ r
end
def Blk.ren (ρ : Nat -> Nat) : Blk -> Blk
  | .gone => .gone
  | .var cs => .var (b7m ρ cs)
  | .arr rw t e n c => .arr rw t e n fun i j => (c i j).ren ρ
  | .map ka ks c => .map ka ks fun x => (c x).ren ρ
  | .mapg ka ks c es clock => .mapg ka ks (fun x => (c x).ren ρ) es clock
  | .iter m ka es clock S last => .iter (ρ m) ka es clock S last
  | .fam rw t te e n r o y => .fam rw t te e n (fun i => ((r i).1, fun x j => ((r i).2 x j).ren ρ)) o (ρ y)
  | .row _ _ => .gone
  | .rows rw e n hd r => .rows rw e n hd r
  | .obj o => .obj o
def rb (xs : Ix) (sl : Nat) (i : Nat) : Nat := match xs[i]? with
  | some (some x) => x
  | some none => 0
  | none => sl + (i - xs.length)
def a8i (ι : Lay) (bs : Nat -> Blk) (w : World) : Amb := ⟨w, fun g => ∃ b, (bs b).rw = true /\ foot ι w b (bs b) g⟩
def Runs (P : Program) (g : FuncId) (args : List AV) (L : List Blk) (R : AV -> List Blk -> Prop) : Prop :=
  (∀ as w, (callFunc g as).run P w = .ok (.enter g as) w) /\
  ∀ (w : World) (ι : Lay) (cs : List Value), WR (a8i ι (blL L) w) ι (blL L) w -> (∀ b, L.length <= b -> ι b = none) -> relL ι args cs ->
    Calls P g cs.toArray w fun e w' => ∃ V Bl v ι', e = .returned v /\ R V Bl /\ L.length <= Bl.length /\ rel ι' V v /\ (∀ b, b < L.length -> ι' b = ι b) /\ (∀ b, Bl.length <= b -> ι' b = none) /\
      (∀ b, (blL Bl b).live = true -> (blL Bl b).rw = true \/ (b < L.length /\ (blL L b).rw = false)) /\ WR (a8i ι (blL L) w) ι' (blL Bl) w'
def a1x (xs : Ix) (sl : Nat) : Ix -> List Blk -> List Blk -> Nat -> List (Nat × Blk)
  | x :: r, l :: L, k :: Bl, j => match x with
    | some x => bif l.rw then (x, k.ren (rb xs sl)) :: a1x xs sl r L Bl j else a1x xs sl r L Bl j
    | none => a1x xs sl r L Bl j
  | [], [], k :: Bl, j => (sl + j, k.ren (rb xs sl)) :: a1x xs sl [] [] Bl (j + 1)
  | _, _, _, _ => []
def upF : Nat -> List Blk -> List Blk -> Nat
  | f, _, [] => f
  | f, [], _ :: Bl => upF (f + 1) [] Bl
  | f, _ :: L, _ :: Bl => upF f L Bl
theorem b5r : ∀ (f : Nat) (L Bl : List Blk), L.length <= Bl.length -> upF f L Bl = f + (Bl.length - L.length)
  | f, L, [], h => by simp [upF]
  | f, [], _ :: Bl, _ => by simp only [upF]; rw [b5r _ [] Bl (by simp)]; simp; omega
  | f, _ :: L, _ :: Bl, h => by simp only [upF]; rw [b5r _ L Bl (by simpa using h)]; simp
def b3u (b : Nat) : Ix -> List Blk -> Bool
  | some y :: r, k :: ks => !(Nat.beq y b && k.rw) && b3u b r ks
  | none :: r, _ :: ks => b3u b r ks
  | _, _ => true
def a5f (bs : Nat -> Blk) (xs0 : Ix) (L0 : List Blk) : Ix -> List Blk -> Bool
  | some x :: r, _ :: ks => (match bs x with
    | .row b _ => b3u b xs0 L0
    | _ => true) && a5f bs xs0 L0 r ks
  | none :: r, _ :: ks => a5f bs xs0 L0 r ks
  | _, _ => true
def b3m (x : Nat) (r : Bool) : Ix -> List Blk -> Bool
  | some y :: xs, k :: ks => (!Nat.beq x y || (!r && !k.rw)) && b3m x r xs ks
  | none :: xs, _ :: ks => b3m x r xs ks
  | [], _ => true
  | _, [] => false
def Ix.lent : Ix -> List Blk -> Bool
  | some x :: r, k :: ks => b3m x k.rw r ks && Ix.lent r ks
  | none :: r, _ :: ks => Ix.lent r ks
  | [], _ => true
  | _, [] => false
def a81 (bs : Nat -> Blk) (xs : Ix) (L : List Blk) : Bool := xs.lent L && a5f bs xs L xs L
def b3a : Blk -> Bool
  | .fam true .. => true
  | _ => false
def a6h : List Blk -> Bool
  | [] => true
  | k :: ks => !b3a k && a6h ks
def c0x : List Blk -> Bool
  | [] => true
  | .row .. :: _ => false
  | _ :: ks => c0x ks
def b4z (b : Nat) : Ix -> List Blk -> Bool
  | some y :: r, k :: ks => (Nat.beq y b && b3a k) || b4z b r ks
  | none :: r, _ :: ks => b4z b r ks
  | _, _ => false
def b20 (bs : Nat -> Blk) (p : Nat -> Bool) : List Nat -> List (Nat × Blk)
  | [] => []
  | x :: r => match bs x with
    | .row b _ => bif p b then (x, .gone) :: b20 bs p r else b20 bs p r
    | _ => b20 bs p r
def a47 (bs : Nat -> Blk) (sl : Nat) (xs : Ix) (L : List Blk) : List (Nat × Blk) := match a6h L with
  | true => []
  | false => b20 bs (fun b => b4z b xs L) (range' sl 0)
inductive Gh where
  | take (y : Nat)
  | put (b : Nat)
  | join (y f : Nat)
  | fold (b : Nat) (l : List Nat) (o : OP)
def ghK (f : Nat) : List Gh -> (Nat -> Blk) -> List (Nat × Blk) -> (List (Nat × Blk) -> Prop) -> Prop
  | [], _, acc, K => K acc
  | .take y :: r, bs, acc, K => match b0o (a1i bs acc) f y with
    | some up => ghK f r bs (up ++ acc) K
    | none => False
  | .put b :: r, bs, acc, K => match c41 (a1i bs acc) b with
    | some (p, up) => b29 p (ghK f r bs (up ++ acc) K)
    | none => False
  | .join y g :: r, bs, acc, K => match b9i (a1i bs acc) y g with
    | some up => ghK f r bs (up ++ acc) K
    | none => False
  | .fold b l o :: r, bs, acc, K => match c0a (a1i bs acc) b l with
    | true => b29 [Fits (a1i bs acc) b l o] (ghK f r bs (a3q b l o ++ acc) K)
    | false => False
theorem a4t {E : Amb} {ι : Lay} {bs : Nat -> Blk} {w : World} {f : Nat} {K : List (Nat × Blk) -> Prop} : ∀ (gs : List Gh) (acc : List (Nat × Blk)), Step E ι bs f f ι acc w -> (∀ b, f <= b -> a1i bs acc b = .gone) -> ghK f gs bs acc K -> ∃ acc', K acc' /\ Step E ι bs f f ι acc' w /\ ∀ b, f <= b -> a1i bs acc' b = .gone
  | [], acc, h1, h2, h => ⟨acc, h, h1, h2⟩
  | .take y :: r, acc, h1, h2, h => by
    simp only [ghK] at h
    split at h
    · rename_i up hup
      have h3 := b4b (f := f) h1.wr h2 hup
      refine a4t r _ (h1.trans h3) (fun b hb => ?_) h
      rw [a7l]
      rcases a09 (a1i bs acc) up b with ⟨k, q1, q2⟩ | ⟨_, q2⟩
      · rcases h3.old b k q1 with q | q
        · omega
        · exact absurd (h2 b hb) q
      · rw [q2]; exact h2 b hb
    · exact h.elim
  | .put x :: r, acc, h1, h2, h => by
    simp only [ghK] at h
    split at h
    · rename_i p up hup
      obtain ⟨hp, h⟩ := a2k _ _ h
      have h3 := c3k (f := f) h1.wr hup hp
      refine a4t r _ (h1.trans h3) (fun b hb => ?_) h
      rw [a7l]
      rcases a09 (a1i bs acc) up b with ⟨k, q1, q2⟩ | ⟨_, q2⟩
      · rcases h3.old b k q1 with q | q
        · omega
        · exact absurd (h2 b hb) q
      · rw [q2]; exact h2 b hb
    · exact h.elim
  | .join x y :: r, acc, h1, h2, h => by
    simp only [ghK] at h
    split at h
    · rename_i up hup
      have h3 := b9a (F := f) h1.wr hup
      refine a4t r _ (h1.trans h3) (fun b hb => ?_) h
      rw [a7l]
      rcases a09 (a1i bs acc) up b with ⟨k, q1, q2⟩ | ⟨_, q2⟩
      · rcases h3.old b k q1 with q | q
        · omega
        · exact absurd (h2 b hb) q
      · rw [q2]; exact h2 b hb
    · exact h.elim
  | .fold x l o :: r, acc, h1, h2, h => by
    simp only [ghK] at h
    split at h
    · rename_i hB
      obtain ⟨hp, h⟩ := a2k _ _ h
      have h3 := b94 (F := f) (o := o) h1.wr hB hp.1
      refine a4t r _ (h1.trans h3) (fun b hb => ?_) h
      rw [a7l]
      rcases a09 (a1i bs acc) (a3q x l o) b with ⟨k, q1, q2⟩ | ⟨_, q2⟩
      · rcases h3.old b k q1 with q | q
        · omega
        · exact absurd (h2 b hb) q
      · rw [q2]; exact h2 b hb
    · exact h.elim
theorem Step.refl {E : Amb} {ι : Lay} {bs : Nat -> Blk} {w : World} {f f' : Nat} (h : WR E ι bs w) : Step E ι bs f f' ι [] w where
  ext := fun _ _ => rfl
  le := Ext.refl _
  wr := h
  old := fun b k hk => by simp at hk
  rwn := fun b k hk => by simp at hk
theorem a7w {f : Nat} {K K' : List (Nat × Blk) -> Prop} : ∀ (gs : List Gh) (bs : Nat -> Blk) (acc : List (Nat × Blk)), (∀ acc, K acc -> K' acc) -> ghK f gs bs acc K -> ghK f gs bs acc K'
  | [], _, acc, h, hk => h acc hk
  | .take y :: r, bs, acc, h, hk => by
    simp only [ghK] at hk ⊢
    split at hk
    · rename_i up hup
      exact a7w r bs _ h hk
    · exact hk.elim
  | .put x :: r, bs, acc, h, hk => by
    simp only [ghK] at hk ⊢
    split at hk
    · rename_i p up hup
      obtain ⟨h1, h2⟩ := a2k _ _ hk
      exact b2v _ _ h1 (a7w r bs _ h h2)
    · exact hk.elim
  | .join x y :: r, bs, acc, h, hk => by
    simp only [ghK] at hk ⊢
    split at hk
    · rename_i up hup
      exact a7w r bs _ h hk
    · exact hk.elim
  | .fold x l o :: r, bs, acc, h, hk => by
    simp only [ghK] at hk ⊢
    split at hk
    · obtain ⟨h1, h2⟩ := a2k _ _ hk
      exact b2v _ _ h1 (a7w r bs _ h h2)
    · exact hk.elim
def b08 (P : Program) (g : FuncId) (args : List AV) (bs : Nat -> Blk) (sl : Nat) (K : AV -> List (Nat × Blk) -> Nat -> Prop) : Prop :=
  ∃ (gs : List Gh) (xs : Ix) (args' : List AV) (L : List Blk) (R : AV -> List Blk -> Prop), Runs P g args' L R /\ a4w xs.at args' args /\ ghK sl gs bs [] fun acc => a4x xs.at (look (a1i bs acc)) xs L /\ a81 (a1i bs acc) xs L = true /\
    ∀ V Bl, R V Bl -> K (V.ren (rb xs sl)) (a1x xs sl xs L Bl 0 ++ (a47 (a1i bs acc) sl xs L ++ acc)) (upF sl L Bl)
def a2q : Nat -> Nat -> Ix -> Bool
  | 0, _, _ => true
  | k + 1, i, some x :: r => Nat.beq x i && a2q k (i + 1) r
  | _, _, _ => false
def b6d : List Blk -> List Blk -> Prop
  | _, [] => True
  | [], k :: ks => (k.live = true -> k.rw = true) /\ b6d [] ks
  | l :: L, k :: ks => (k.live = true -> k.rw = true \/ l.rw = false) /\ b6d L ks
def c8h (P : Program) (g : FuncId) (args : List AV) (L : List Blk) : Prop :=
  (∀ as w, (callFunc g as).run P w = .ok (.enter g as) w) /\
  ∀ (w : World) (ι : Lay) (cs : List Value), WR (a8i ι (blL L) w) ι (blL L) w -> (∀ b, L.length <= b -> ι b = none) -> relL ι args cs ->
    Calls P g cs.toArray w fun e w' => (∃ u pv, e = .panicked [{ v := .iface u pv, recovered := false }]) /\ WR (a8i ι (blL L) w) ι (blL L) w'
def LeB (L0 : List Blk) (bs : Nat -> Blk) : Prop :=
  ∃ xs : Ix, a2q L0.length 0 xs = true /\ (a5e xs L0).nodup = true /\ b6d L0 L0 /\ a4x xs.at bs xs L0
def c96 (P : Program) (L0 : List Blk) (g : FuncId) (args : List AV) (bs : Nat -> Blk) (sl : Nat) : Prop :=
  ∃ (xs : Ix) (args' : List AV) (L : List Blk), c8h P g args' L /\ a4w xs.at args' args /\ a4x xs.at (look bs) xs L /\ (a81 bs xs L && a6h L) = true /\ LeB L0 (a1i bs (a1x xs sl xs L L 0))
def c65 (z : Bool) (X Y : Prop) : Prop := match z with
  | false => X
  | true => Y
theorem b6f {z : Bool} {X Y : Prop} (h : c65 z (stop X) (stop (X \/ Y))) : X \/ (z = true /\ Y) := by
  cases z
  · exact .inl (a1m h)
  · exact (a1m h).imp id fun h => ⟨rfl, h⟩
def c36 : Op -> Bool
  | .call { callee := .value _, .. } => true
  | .call { callee := .invoke _ _, .. } => true
  | _ => false
def tgt (T : Tab) (op : Op) (ev : Operand -> AV) : Option (List Prop × FuncId × List AV) := match op with
  | .call { callee := .value f, args := as, .. } => match ev f with
    | .fn (.func g) caps => some ([], g, as.toList.map ev ++ caps)
    | .bfn (.func g) first caps => some ([], g, first ++ (as.toList.map ev ++ caps))
    | _ => none
  | .call { callee := .invoke r name, args := as, .. } => match ev r with
    | .ifc t (.ptr b e i j) => match T.get t with
      | some { k := .mptr _ n g off, .. } => some ([n = name], g, .ptr b e i (j + off) :: as.toList.map ev)
      | _ => none
    | _ => none
  | _ => none
def a9a (b : Bool) (X Y : Prop) : Prop := match b with
  | true => X
  | false => Y
theorem a0g {b : Bool} {X Y : Prop} (h1 : b = true -> X) (h2 : b = false -> Y) : a9a b X Y := by
  cases b
  · exact h2 rfl
  · exact h1 rfl
def c1p (place : Nat -> Option (Nat × Nat)) : List (Nat × AV) -> List AV -> (List AV -> Prop) -> Prop
  | [], cells, K => K cells
  | (i, v) :: rest, cells, K => a99 v fun v => match place i with
    | none => False
    | some (off, size) => match Nat.beq v.cells.length size && Nat.ble (off + v.cells.length) cells.length && a2a v.cells with
      | true => a4z (setCells cells off v.cells) fun cells => c1p place rest cells K
      | false => False
theorem a95 {place : Nat -> Option (Nat × Nat)} : ∀ (parts : List (Nat × AV)) (cells : List AV) (K : List AV -> Prop), c1p place parts cells K -> ∃ cs, a6c place cells parts = some cs /\ K cs
  | [], cells, K, h => ⟨cells, rfl, h⟩
  | (i, v) :: rest, cells, K, h => by
    simp only [c1p] at h
    have h := (a1c _ _).1 h
    simp only [a6c]
    split at h
    · exact h.elim
    · rename_i off size hp
      try simp only [hp]
      split at h
      · rename_i hq
        obtain ⟨cs, h1, h2⟩ := a95 rest _ K ((a2i _ _).1 h)
        exact ⟨cs, by rw [hq, cond_true]; exact h1, h2⟩
      · exact h.elim
def b69 (b : Bool) (X : Prop) : Prop := match b with
  | true => X
  | false => False
def c6n (T : Tab) (op : Op) (sl : Nat) (ev : Operand -> AV) (bs : Nat -> Blk) (K : AV -> List (Nat × Blk) -> Nat -> Prop) : Prop := match op with
  | .buildSlice t len parts => match T.get t with
    | some { k := .slice te, .. } => match T.get te with
      | some de => b69 (a2a (de.zero.map .val) && Nat.beq de.zero.length de.sz && Nat.blt 0 de.sz && Nat.ble (len * de.sz) 16777216)
        (a4z (a3z de.zero len) fun z => c1p (fun i => some (i * de.sz, de.sz)) (parts.toList.map fun x => (x.1, ev x.2)) z fun cs =>
          K (.sl sl de.sz 0 len (some len)) [(sl, .arr true te de.sz len fun i j => cs.getD (i * de.sz + j) .dead)] (sl + 1))
      | none => False
    | _ => False
  | .build t parts => match T.get t with
    | some { k := .struct fs, zero := z, .. } => b69 (a2a (z.map .val)) (c1p (fun i => (fs[i]?).map fun x => (x.1, x.2.1)) (parts.toList.map fun x => (x.1, ev x.2)) (z.map .val) fun cs => K (.agg cs) [] sl)
    | _ => match aop T (.build t parts) ev bs sl with
      | some (p, v, up) => b29 p (K v up (bump (.build t parts) sl))
      | none => False
  | op => match aop T op ev bs sl with
    | some (p, v, up) => b29 p (K v up (bump op sl))
    | none => False
def c9p (T : Tab) (op : Op) : Bool := match op with
  | .call c => match c.argTypes.toList with
    | t :: _ => match T.get t with
      | some { k := .slice te, .. } => match T.get te with
        | some { k := .slice _, .. } => true
        | _ => false
      | _ => false
    | [] => false
  | _ => true
def b95 (T : Tab) (op : Op) (ev : Operand -> AV) (bs : Nat -> Blk) (f : Nat) : Option FamD := match b13 T op ev bs f with
  | some d => some d
  | none => match c9p T op with
    | true => b0n T op ev bs f
    | false => none
def rowOf (T : Tab) (op : Op) (ev : Operand -> AV) : Option (Nat × Nat × List Int) := match op with
  | .buildSlice t len parts => match c85 t with
    | true => match T.get t with
      | some { k := .slice te, .. } => match T.get te with
        | some de => match a6c (fun i => some (i * de.sz, de.sz)) (a3z de.zero len) (parts.toList.map fun x => (x.1, ev x.2)) with
          | some cs => match a5v cs with
            | some l => bif (a2a (de.zero.map .val) && Nat.beq de.zero.length de.sz && Nat.blt 0 de.sz && Nat.ble (len * de.sz) 16777216) && (Nat.blt 0 len && Nat.beq l.length (len * de.sz)) then some (de.sz, len, l) else none
            | none => none
          | none => none
        | none => none
      | _ => none
    | false => none
  | _ => none
abbrev b9s (e len : Nat) (l : List Int) (h : Value) : Blk := .rows true e 1 (fun _ => h) (fun _ => (len, fun x j => l.getD (x * e + j) 0))
def opK (z : Bool) (L0 : List Blk) (P : Program) (T : Tab) (o : Oper) (sl : Nat) (ev : Operand -> AV) (bs : Nat -> Blk) (K : AV -> List (Nat × Blk) -> Nat -> Prop) : Prop :=
  match c36 o.op with
  | true => match tgt T o.op ev with
    | some (p, g, vs) => b29 p (a4z vs fun args => c65 z (stop (b08 P g args bs sl K)) (stop (b08 P g args bs sl K \/ c96 P L0 g args bs sl)))
    | none => False
  | false => match rowOf T o.op ev with
   | some (e, len, l) => stop (∀ h : Value, K (.rsl sl 0 e len h) [(sl, b9s e len l h)] (sl + 1))
   | none => match b8j T o.op ev with
    | some (p, len) => stop (∀ nb : Bool, (nb = true -> len = 0) -> K (c7y p nb) [] sl)
    | none => match b95 T o.op ev bs sl with
     | some d => b29 d.p (K d.v d.up d.f')
     | none => match b8b o.op ev bs sl with
      | some tk => c6n T o.op sl ev (look (a1i bs tk)) fun v up f => K v (up ++ tk) f
      | none => match c6c T o.op ev bs with
      | some (q, v, z) => stop (a9a q (K v [] sl) (K z [] sl))
      | none => match c5m T o.op ev bs with
        | some (b, ka, ks, c) => stop (∀ (es : Array MapEntry) (clock : Nat), K (.ptr sl 1 0 0) [(b, .mapg ka ks c es clock), (sl, .iter b ka es clock [] none)] (sl + 1))
        | none => match c56 o.op ev bs with
          | some d => stop ((d.es' = d.es /\ d.clock' = d.clock /\ d.ka' = d.ka) /\ ((∀ k ∈ d.ks, k ∈ d.S) -> K (.tup [.val (.bool false)]) [] sl) /\
              ∀ k, k ∈ d.ks -> k ∉ d.S -> K (.tup [.val (.bool true), b5o d.ka k, d.c k]) [(d.b, .iter d.m d.ka d.es d.clock (d.S ++ [k]) (some k))] sl)
          | none => match c44 o.op ev bs with
            | some (d, k) => stop ((d.es' = d.es /\ d.clock' = d.clock /\ d.ka' = d.ka) /\ K (.tup [b5o d.ka k, d.c k]) [] sl)
            | none => match c8c T o.op ev (look bs) with
              | some d => b29 d.p (stop (∃ (k : Nat) (F : Nat -> Nat -> AV), (k = min d.n d.len /\ d.off + k <= d.m /\ ∀ i, i < d.m -> ∀ j, j < d.e -> F i j = cpF d.off k d.c0 d.c i j) /\ K (.val (.int .i64 k)) [(d.b, .arr true d.t d.e d.m F)] sl))
              | none => c6n T o.op sl ev (look bs) K
def b1f (tm : Nat -> AV) (dst : Option Tmp) (v : AV) : Nat -> AV := match dst with
  | some d => b7y tm d v
  | none => tm
def a7p (n : Nat) (dst : Option Tmp) : Bool := match dst with
  | some d => Nat.blt d n
  | none => true
def a80 (b : Bool) (X : Prop) : Prop := match b with
  | true => X
  | false => False
def c8e (z : Bool) (L0 : List Blk) (P : Program) (T : Tab) (n : Nat) (o : Oper) (s : St) (K : St -> Prop) : Prop :=
  match s with
  | ⟨tm, bs, sl⟩ => a80 (a7p n o.dst) (opK z L0 P T o sl (St.ev ⟨tm, bs, sl⟩) bs fun v up f => a99 v fun v => b0i up fun up => b0e f fun f => K ⟨b1f tm o.dst v, a1i bs up, f⟩)
def c15 (b want : Bool) (run skip : Bool -> Prop) : Prop := match b, want with
  | true, true => run true
  | false, false => run false
  | true, false => skip true
  | false, true => skip false
def c9n (z : Bool) (L0 : List Blk) (P : Program) (T : Tab) (n : Nat) (ops : List Oper) (o : Oper) (go : St -> (St -> Prop) -> Prop) (s : St) (K : St -> Prop) : Prop := match s with
  | ⟨tm, bs, sl⟩ => match o.guard with
    | none => c8e z L0 P T n o ⟨tm, bs, sl⟩ fun s' => go s' K
    | some (j, want) => match (ops[j]?).bind (·.dst) with
      | some d =>
        let run : Bool -> Prop := fun b => c8e z L0 P T n o ⟨b7y tm d (.val (.bool b)), bs, sl⟩ fun s' => go s' K
        let skip : Bool -> Prop := fun b => a80 (a7p n o.dst) (go ⟨b1f (b7y tm d (.val (.bool b))) o.dst (.tup []), bs, sl⟩ K)
        match tm d with
        | .val (.bool b) => c15 b want run skip
        | .sb b => stop (a9a b (c15 true want run skip) (c15 false want run skip))
        | .tup [] => a80 (a7p n o.dst) (go ⟨b1f tm o.dst (.tup []), bs, sl⟩ K)
        | _ => False
      | none => False
abbrev c7q (z : Bool) (L0 : List Blk) (P : Program) (T : Tab) (n : Nat) (ops : List Oper) (l : List Oper) : St -> (St -> Prop) -> Prop :=
  List.rec (motive := fun _ => St -> (St -> Prop) -> Prop) (fun s K => K s) (fun o _ go => c9n z L0 P T n ops o go) l
theorem a30 {X Y : Prop} (h : a9a true X Y) : X := h
theorem a3k {X Y : Prop} (h : a9a false X Y) : Y := h
attribute [irreducible] a9a
theorem a4m {X Y : Prop} (h : X) : a9a true X Y := a0g (fun _ => h) (fun e => by cases e)
theorem a1k {X Y : Prop} (h : Y) : a9a false X Y := a0g (fun e => by cases e) (fun _ => h)
inductive Ex where
  | normal
  | exit (id : Nat)
  | ret
structure Sp where
  fr : List (Nat × AV)
  bl : List Blk
def Sp.st (p : Sp) : St := ⟨frL p.fr, blL p.bl, p.bl.length⟩
def c6w (ρ : Nat -> Option Nat) (tm : Nat -> AV) : List (Nat × AV) -> Prop
  | [] => True
  | (t, v) :: r => a99 (tm t) (fun y => stop (sub ρ v y)) /\ c6w ρ tm r
def Le (L0 : List Blk) (p : Sp) (s : St) : Prop :=
  ∃ (xs : Ix) (gs : List Gh), a2q L0.length 0 xs = true /\ (a5e xs p.bl).nodup = true /\ b6d L0 p.bl /\ c6w xs.at s.tm p.fr /\ ghK s.f gs s.bs [] fun acc => a4x xs.at (a1i s.bs acc) xs p.bl
def c8o (L0 : List Blk) (body : (Ex -> St -> Prop) -> St -> Prop) (K : Ex -> St -> Prop) (s : St) : Prop :=
  ∃ (σ : Type) (S : σ -> Sp) (μ : σ -> Nat), (∃ x, Le L0 (S x) s) /\ ∀ x, body (fun e s' => match e with
    | .normal => stop (∃ y, μ y < μ x /\ Le L0 (S y) s')
    | e => K e s') (S x).st
def c3a (body : (Ex -> St -> Prop) -> St -> Prop) (K : Ex -> St -> Prop) : Nat -> St -> Prop
  | 0, _ => False
  | n + 1, s => body (fun e s' => match e with
    | .normal => c3a body K n s'
    | e => K e s') s
def c2n (L0 : List Blk) (body : (Ex -> St -> Prop) -> St -> Prop) (K : Ex -> St -> Prop) (s : St) : Prop :=
  c8o L0 body K s \/ ∃ n, c3a body K n s
def Det (V : AV) (B : List Blk) : AV -> List Blk -> Prop := fun V' B' => V' = V /\ B' = B
def b33 (x : Nat) : List Nat -> Bool
  | [] => false
  | y :: r => Nat.beq x y || b33 x r
def c8d (x : Option Nat) (l : List Nat) : Bool := match x with
  | some x => b33 x l
  | none => false
def c7a (x y : Option Nat) : Bool := match x, y with
  | some x, some y => Nat.beq x y
  | _, _ => false
def meets : List Nat -> List Nat -> Bool
  | [], _ => false
  | x :: r, l => b33 x l || meets r l
def tmpsOf : List Operand -> List Nat
  | [] => []
  | .tmp t :: r => t :: tmpsOf r
  | _ :: r => tmpsOf r
def c9v : Op -> List Operand
  | .move x => [x]
  | .assign x => [x]
  | .box _ x => [x]
  | .load _ x => [x]
  | .nilCheck x => [x]
  | .unOp _ _ x => [x]
  | .convert _ _ x => [x]
  | .fieldAddr _ x _ => [x]
  | .field _ x _ => [x]
  | .extract x _ => [x]
  | .pick c a b => [c, a, b]
  | .build _ ps => ps.toList.map (·.2)
  | .buildSlice _ _ ps => ps.toList.map (·.2)
  | .store _ a v => [a, v]
  | .binOp _ _ a v _ => [a, v]
  | .makeSlice _ a v => [a, v]
  | .makeMap _ r => r.toList
  | .indexAddr _ a v => [a, v]
  | .index _ a v => [a, v]
  | .lookup _ a v _ => [a, v]
  | .mapUpdate _ m k v => [m, k, v]
  | .insert _ m k v => [m, k, v]
  | .makeInterface _ x => [x]
  | .typeAssert x _ _ _ => [x]
  | .makeFunc _ first caps => first.toList ++ caps.toList
  | .slice _ x l h m => x :: (l.toList ++ (h.toList ++ m.toList))
  | .call c => match c.callee with
    | .value f => f :: c.args.toList
    | .invoke r _ => r :: c.args.toList
    | _ => c.args.toList
  | _ => []
def b7q : AV -> List Nat
  | .ptr b .. => [b]
  | .rptr y .. => [y]
  | .sl b .. => [b]
  | .map b => [b]
  | _ => []
def c38 : List AV -> List Nat
  | [] => []
  | v :: r => b7q v ++ c38 r
def c4q (op : Op) (ev : Operand -> AV) : List Nat := match op with
  | .load _ x => b7q (ev x)
  | .store _ x _ => b7q (ev x)
  | .lookup _ x _ _ => b7q (ev x)
  | .mapUpdate _ x _ _ => b7q (ev x)
  | .insert _ x _ _ => b7q (ev x)
  | .call c => c38 (c.args.toList.map ev)
  | _ => []
def a6j : List Nat -> (List Nat -> Prop) -> Prop
  | [], K => K []
  | x :: r, K => a6j r fun r => b0e x fun x => K (x :: r)
theorem a3x : ∀ (l : List Nat) (K : List Nat -> Prop), a6j l K ↔ K l
  | [], K => Iff.rfl
  | x :: r, K => by simp only [a6j]; rw [a3x r, a1d]
def c20 (rd : List Nat) (ev : Operand -> AV) : Operand -> AV := fun x => match x with
  | .tmp t => bif b33 t rd then ev (.tmp t) else .dead
  | x => ev x
def b05 (l : List Nat) (bs : Nat -> Blk) : Nat -> Blk := fun b => bif b33 b l then bs b else .gone
structure Fp where
  rd : List Nat
  dst : Option Nat
  tch : List Nat
  upk : List Nat
  f : Nat
  f' : Nat
def b3z (bs : Nat -> Blk) : List Nat -> List Nat
  | [] => []
  | x :: r => match bs x with
    | .row b _ => b :: b3z bs r
    | _ => b3z bs r
def b00 (bs : Nat -> Blk) (l : List Nat) : List Nat := b3z bs l ++ l
def b2h : Ix -> List Nat
  | [] => []
  | none :: r => b2h r
  | some x :: r => x :: b2h r
def b7g (P : Program) (g : FuncId) (args : List AV) (bs : Nat -> Blk) (sl : Nat) (K : List Nat -> AV -> List (Nat × Blk) -> Nat -> Prop) : Prop :=
  ∃ (xs : Ix) (args' : List AV) (L : List Blk) (V : AV) (B : List Blk), Runs P g args' L (Det V B) /\ a4w xs.at args' args /\ a4x xs.at (look bs) xs L /\ (a81 bs xs L && a6h L) = true /\
    K (b00 bs (b2h xs)) (V.ren (rb xs sl)) (a1x xs sl xs L B 0) (upF sl L B)
def c5d : AV -> Bool
  | .sl _ _ _ 1 (some 0) => true
  | .agg (.sl _ _ _ 1 (some 0) :: _) => true
  | _ => false
def c94 (P : Program) (L0 : List Blk) (g : FuncId) (args : List AV) (bs : Nat -> Blk) (sl : Nat) (K : List Nat -> AV -> List (Nat × Blk) -> Nat -> Prop) : Prop :=
  ∃ (xs : Ix) (args' : List AV) (L : List Blk), c8h P g args' L /\ a4w xs.at args' args /\ a4x xs.at (look bs) xs L /\ (a81 bs xs L && a6h L) = true /\ LeB L0 (a1i bs (a1x xs sl xs L L 0)) /\
    ∃ V : AV, c5d V = true /\ K (b00 bs (b2h xs) ++ range' L0.length 0) V [] sl
def c83 : Blk -> Bool
  | .gone => true
  | _ => false
def c93 (T : Tab) (op : Op) (ev : Operand -> AV) (bs : Nat -> Blk) (f : Nat) : Bool := match b0n T op ev bs f with
  | some _ => true
  | none => match b8b op ev bs f with
    | some _ => true
    | none => false
def opD (z : Bool) (L0 : List Blk) (P : Program) (T : Tab) (o : Oper) (sl : Nat) (ev : Operand -> AV) (bs : Nat -> Blk) (K : List Nat -> AV -> List (Nat × Blk) -> Nat -> Prop) : Prop :=
  match c36 o.op with
  | true => match tgt T o.op ev with
    | some (p, g, vs) => b29 p (a4z vs fun args => c65 z (stop (b7g P g args bs sl K)) (stop (b7g P g args bs sl K \/ c94 P L0 g args bs sl K)))
    | none => False
  | false => match c93 T o.op ev bs sl with
   | true => b69 ((range' 16 sl).all fun b => c83 (bs b)) (a6j (range' (sl + 16) 0) fun tch => match b0n T o.op ev (b05 tch bs) sl with
    | some d => b29 d.p (K tch d.v d.up d.f')
    | none => match b8b o.op ev (b05 tch bs) sl with
     | some tk => c6n T o.op sl ev (look (a1i (b05 tch bs) tk)) fun v up f => K tch v (up ++ tk) f
     | none => False)
   | false => a6j (b00 bs (c4q o.op ev)) fun tch => match b13 T o.op ev (b05 tch bs) sl with
   | some d => b29 d.p (K tch d.v d.up d.f')
   | none => match c8c T o.op ev (look (b05 tch bs)) with
    | some d => b29 d.p (stop (∃ (k : Nat) (F : Nat -> Nat -> AV), (k = min d.n d.len /\ d.off + k <= d.m /\ ∀ i, i < d.m -> ∀ j, j < d.e -> F i j = cpF d.off k d.c0 d.c i j) /\ K tch (.val (.int .i64 k)) [(d.b, .arr true d.t d.e d.m F)] sl))
    | none => c6n T o.op sl ev (look (b05 tch bs)) (K tch)
def c1h (v : AV) (K : AV -> Prop) : Prop := match v with
  | .sb b => stop (a9a b (K (.val (.bool true))) (K (.val (.bool false))))
  | v => a99 v K
def c8b (z : Bool) (L0 : List Blk) (P : Program) (T : Tab) (n : Nat) (gd : List Nat) (o : Oper) (s : St) (K : St -> Fp -> Prop) : Prop :=
  match s with
  | ⟨tm, bs, sl⟩ => a80 (a7p n o.dst) (a6j (gd ++ tmpsOf (c9v o.op)) fun rd => opD z L0 P T o sl (c20 rd (St.ev ⟨tm, bs, sl⟩)) bs fun tch v up f => c1h v fun v => b0i up fun up => b0e f fun f =>
    a6j tch fun tch => a6j (up.map (·.1)) fun upk => K ⟨b1f tm o.dst v, a1i bs up, f⟩ ⟨rd, o.dst, tch, upk, sl, f⟩)
def a5y (x y : Fp) : Bool :=
  c8d x.dst y.rd || (c7a x.dst y.dst || (c8d y.dst x.rd || (meets x.upk y.tch || (meets x.upk y.upk || meets x.tch y.upk))))
def b0k : List Nat -> List Nat -> List Nat
  | [], l => l
  | x :: r, l => bif b33 x (b0k r l) then b0k r l else x :: b0k r l
def c6v (A : List (List Nat)) : List Edge -> List Nat
  | [] => []
  | e :: r => bif Region.binds .any e then b0k (e.on :: A.getD e.on []) (c6v A r) else c6v A r
def c7c : List Oper -> List (List Nat) -> List (List Nat)
  | [], A => A
  | o :: r, A => c7c r (A ++ [c6v A o.after.toList])
def c9s (f0 F : Nat) (x : Fp) : Bool := Nat.ble f0 x.f && (Nat.ble x.f x.f' && (Nat.ble x.f' F && ((!b33 (x.f + 15) x.tch || Nat.ble F (x.f + 16)) && ((range' (x.f' - x.f) x.f).all (fun b => b33 b x.upk) && x.upk.all (fun b => Nat.blt b x.f')))))
def a73 (ops : List Oper) (fs : List Fp) (f0 F : Nat) : Bool :=
  fs.all (c9s f0 F) && (
    (List.range ops.length).all (fun j => match ops[j]? with
      | some o => o.after.toList.all fun e => !Region.binds .any e || Nat.blt e.on j
      | none => true) &&
    (List.range fs.length).all (fun j => (List.range j).all fun i => match fs[i]?, fs[j]?, (c7c ops [])[j]? with
      | some x, some y, some l => Nat.ble x.f' y.f && (!a5y x y || b33 i l)
      | _, _, _ => false))
def c6f (z : Bool) (L0 : List Blk) (P : Program) (T : Tab) (n : Nat) (ops : List Oper) (o : Oper) (go : St -> List Fp -> (St -> Prop) -> Prop) (s : St) (acc : List Fp) (K : St -> Prop) : Prop := match o.guard with
    | none => c8b z L0 P T n [] o s fun s' x => go s' (acc ++ [x]) K
    | some (j, want) => match (ops[j]?).bind (·.dst) with
      | some d =>
        let run : Bool -> Prop := fun _ => c8b z L0 P T n [d] o s fun s' x => go s' (acc ++ [x]) K
        let skip : Bool -> Prop := fun _ => match s with
          | ⟨tm, bs, sl⟩ => a80 (a7p n o.dst) (go ⟨b1f tm o.dst (.tup []), bs, sl⟩ (acc ++ [⟨[d], o.dst, [], [], sl, sl⟩]) K)
        match s.tm d with
        | .val (.bool b) => c15 b want run skip
        | .tup [] => skip true
        | _ => False
      | none => False
abbrev b5c (z : Bool) (L0 : List Blk) (P : Program) (T : Tab) (n : Nat) (ops : List Oper) (f0 : Nat) (l : List Oper) : St -> List Fp -> (St -> Prop) -> Prop :=
  List.rec (motive := fun _ => St -> List Fp -> (St -> Prop) -> Prop)
    (fun s acc K => match s with
      | ⟨tm, bs, sl⟩ => c65 z (stop (a73 ops acc f0 sl = true /\ K ⟨tm, bs, sl⟩)) (stop (a73 ops acc f0 sl = true /\ (K ⟨tm, bs, sl⟩ \/ ∃ t, c5d (tm t) = true))))
    (fun o _ go => c6f z L0 P T n ops o go) l
def c87 : Code -> Bool
  | .seq _ _ => true
  | .block _ _ => true
  | _ => false
def c4w : Code -> Bool
  | .region _ _ d => d
  | .seq a _ => c4w a
  | .block _ b => c4w b
  | _ => false
def c8t (L0 : List Blk) (fx fy : (Ex -> St -> Prop) -> St -> Prop) (K : Ex -> St -> Prop) (s : St) : Prop :=
  fx (fun e s' => match e with
    | .normal => fy K s'
    | .exit id => K (.exit id) s'
    | .ret => K .ret s') s \/
  ∃ (σ : Type) (S : σ -> Sp), fx (fun e s' => match e with
    | .normal => stop (∃ y, Le L0 (S y) s')
    | .exit id => K (.exit id) s'
    | .ret => K .ret s') s /\ ∀ y, fy K (S y).st
def c4h (z : Bool) (L0 : List Blk) (P : Program) (T : Tab) (n : Nat) (ops : Array Oper) (draw : Bool) (K : Ex -> St -> Prop) (s : St) : Prop := match draw with
  | false => c7q z L0 P T n ops.toList ops.toList s (K .normal)
  | true => match s with
    | ⟨tm, bs, sl⟩ => b0e sl fun sl => b5c z L0 P T n ops.toList sl ops.toList ⟨tm, bs, sl⟩ [] (K .normal)
def c8k (sq : Bool) (L0 : List Blk) (fx fy : (Ex -> St -> Prop) -> St -> Prop) (K : Ex -> St -> Prop) (s : St) : Prop := match sq with
  | true => stop (c8t L0 fx fy K s)
  | false => fx (fun e s' => match e with
    | .normal => fy K s'
    | .exit id => K (.exit id) s'
    | .ret => K .ret s') s
def c4y (c : Operand) (fx fy : (Ex -> St -> Prop) -> St -> Prop) (K : Ex -> St -> Prop) (s : St) : Prop := match s.ev c with
  | .val (.bool t) => (match t with | true => fx K s | false => fy K s)
  | .sb t => stop (a9a t (fx K s) (fy K s))
  | _ => False
def c7o (id : Nat) (f : (Ex -> St -> Prop) -> St -> Prop) (K : Ex -> St -> Prop) (s : St) : Prop := f (fun e s' => match e with
  | .normal => K .normal s'
  | .exit id' => bif Nat.beq id' id then K .normal s' else K (.exit id') s'
  | .ret => K .ret s') s
abbrev c2q (z : Bool) (P : Program) (T : Tab) (n : Nat) (L0 : List Blk) (c : Code) : (Ex -> St -> Prop) -> St -> Prop :=
  Code.rec (motive := fun _ => (Ex -> St -> Prop) -> St -> Prop)
    (fun K s => K .normal s)
    (fun _ ops draw => c4h z L0 P T n ops draw)
    (fun a b fa fb => c8k (c87 a || c4w b) L0 fa fb)
    (fun c _ _ fa fb => c4y c fa fb)
    (fun id _ fb => c7o id fb)
    (fun _ fb K s => stop (c2n L0 fb K s))
    (fun _ _ _ _ _ _ _ _ => False)
    (fun id K s => K (.exit id) s)
    (fun _ fb => fb)
    (fun _ K s => K .normal s)
    (fun _ _ _ => False)
    (fun K s => K .ret s)
    (fun _ _ _ => False)
    c
abbrev awp (P : Program) (T : Tab) (n : Nat) (L0 : List Blk) (c : Code) : (Ex -> St -> Prop) -> St -> Prop := c2q false P T n L0 c
def a6m (T : Tab) (s : St) : List ResultVar -> Option (List Prop × List AV)
  | [] => some ([], [])
  | .tmp t :: r => match a6m T s r with
    | some (p, vs) => some (p, s.tm t :: vs)
    | none => none
  | .cell a t :: r => match a6m T s r, T.get t, s.tm a with
    | some (p, vs), some d, .ptr b e i j => match a17 (s.bs b) e i j d.sz with
      | some (q, cs) => bif d.k.agg || Nat.beq d.sz 1 then some (q ++ p, a9b d.k.agg cs :: vs) else none
      | none => none
    | _, _, _ => none
def c3f : List AV -> AV
  | [v] => v
  | vs => .tup vs
def c8x (T : Tab) (rs : List ResultVar) (L : List Blk) (R : AV -> List Blk -> Prop) : Ex -> St -> Prop := fun e s => match e with
  | .exit _ => False
  | _ => match a6m T s rs with
    | some (p, vs) => b29 p (a4z vs fun vs => stop (∃ (V : AV) (Bl : List Blk) (xs : Ix) (gs : List Gh), a2q L.length 0 xs = true /\ (a5e xs Bl).nodup = true /\ b6d L Bl /\ sub xs.at V (c3f vs) /\ (ghK s.f gs s.bs [] fun acc => a4x xs.at (a1i s.bs acc) xs Bl) /\ R V Bl))
    | none => False
end Go.Vx
namespace Go.Vx
variable {P : Program}
def a1s (ρ : Nat -> Option Nat) (ι : Lay) : Lay := fun b => (ρ b).bind ι
mutual
theorem a5a {ρ : Nat -> Option Nat} {ι : Lay} : ∀ (x y : AV) (c : Value), sub ρ x y -> rel ι y c -> rel (a1s ρ ι) x c
 | .dead, y, c => by intro _ _; simp [rel]
 | .val v, y, c => by simp only [sub]; rintro rfl h; simpa [rel] using h
 | .sb b, y, c => by simp only [sub]; rintro (rfl | rfl) h <;> simpa [rel] using h
 | .ptr b e i j, y, c => by
  simp only [sub]
  rintro ⟨x, hx, rfl⟩ h
  simp only [rel] at h ⊢
  obtain ⟨l, hl, e1⟩ := h
  exact ⟨l, by simp [a1s, hx, hl], e1⟩
 | .sl b e off len cap, y, c => by
  simp only [sub]
  rintro (⟨x, hx, rfl⟩ | ⟨h0, rfl, hc⟩) h
  ·simp only [rel] at h ⊢
   obtain ⟨a, k, h1, h2, h3, h4⟩ := h
   refine ⟨a, k, h1, h2, h3, fun hk => ?_⟩
   obtain ⟨l, hl, r⟩ := h4 hk
   exact ⟨l, by simp [a1s, hx, hl], r⟩
  ·simp only [rel] at h ⊢
   subst h0; subst h
   refine ⟨none, 0, rfl, Nat.le_refl _, fun m hm => ?_, fun hk => absurd hk (by omega)⟩
   rcases hc with rfl | rfl
   ·cases hm
   ·cases hm; rfl
 | .fn f caps, y, c => by
  simp only [sub]
  rintro ⟨cs, rfl, hs⟩ h
  simp only [rel] at h ⊢
  obtain ⟨us, e1, h1⟩ := h
  exact ⟨us, e1, a43 caps cs us hs h1⟩
 | .bfn f first caps, y, c => by
  simp only [sub]
  rintro ⟨fs, cs, rfl, h0, hs⟩ h
  simp only [rel] at h ⊢
  obtain ⟨us, vs, e1, h1, h2⟩ := h
  exact ⟨us, vs, e1, a43 first fs us h0 h1, a43 caps cs vs hs h2⟩
 | .agg vs, y, c => by
  simp only [sub]
  rintro ⟨cs, rfl, hs⟩ h
  simp only [rel] at h ⊢
  obtain ⟨us, e1, h1, h2⟩ := h
  exact ⟨us, e1, a43 vs cs us hs h1, h2⟩
 | .tup vs, y, c => by
  simp only [sub]
  rintro ⟨cs, rfl, hs⟩ h
  simp only [rel] at h ⊢
  obtain ⟨us, e1, h1⟩ := h
  exact ⟨us, e1, a43 vs cs us hs h1⟩
 | .map b, y, c => by
  simp only [sub]
  rintro ⟨x, hx, rfl⟩ h
  simp only [rel] at h ⊢
  obtain ⟨l, hl, e1⟩ := h
  exact ⟨l, by simp [a1s, hx, hl], e1⟩
 | .rsl _ _ e len u, y, c => by
  simp only [sub]
  rintro ⟨y', i', rfl⟩ h
  simpa only [rel] using h
 | .rptr _ _ e x j u, y, c => by
  simp only [sub]
  rintro ⟨y', i', rfl⟩ h
  simpa only [rel] using h
 | .ifc t v, y, c => by
  simp only [sub]
  rintro ⟨u, rfl, hs⟩ h
  simp only [rel] at h ⊢
  obtain ⟨cu, e1, h1⟩ := h
  exact ⟨cu, e1, a5a v u cu hs h1⟩
theorem a43 {ρ : Nat -> Option Nat} {ι : Lay} : ∀ (xs ys : List AV) (cs : List Value), a4w ρ xs ys -> relL ι ys cs -> relL (a1s ρ ι) xs cs
 | [], ys, cs => by simp only [a4w]; rintro rfl h; simpa [relL] using h
 | x :: r, ys, cs => by
  simp only [a4w]
  rintro ⟨y, r', rfl, h1, h2⟩ h
  simp only [relL] at h ⊢
  obtain ⟨c, q, rfl, h3, h4⟩ := h
  exact ⟨c, q, rfl, a5a x y c h1 h3, a43 r r' q h2 h4⟩
end
mutual
theorem a6k {r : Nat -> Nat} {ι ι' : Lay} (hr : ∀ b l, ι' b = some l -> ι (r b) = some l) : ∀ (v : AV) (c : Value), rel ι' v c -> rel ι (v.ren r) c
 | .dead, c => by simp [AV.ren, rel]
 | .val v, c => by simp [AV.ren, rel]
 | .sb b, c => by simp [AV.ren, rel]
 | .ptr b e i j, c => by simp only [AV.ren, rel]; rintro ⟨l, hl, e1⟩; exact ⟨l, hr _ _ hl, e1⟩
 | .sl b e off len cap, c => by
  simp only [AV.ren, rel]
  rintro ⟨a, k, h1, h2, h3, h4⟩
  refine ⟨a, k, h1, h2, h3, fun hk => ?_⟩
  obtain ⟨l, hl, q⟩ := h4 hk
  exact ⟨l, hr _ _ hl, q⟩
 | .fn f caps, c => by simp only [AV.ren, rel]; rintro ⟨cs, e1, h⟩; exact ⟨cs, e1, a6z hr caps cs h⟩
 | .bfn f first caps, c => by simp only [AV.ren, rel]; rintro ⟨fs, cs, e1, h0, h⟩; exact ⟨fs, cs, e1, a6z hr first fs h0, a6z hr caps cs h⟩
 | .agg vs, c => by simp only [AV.ren, rel]; rintro ⟨cs, e1, h, h2⟩; exact ⟨cs, e1, a6z hr vs cs h, h2⟩
 | .tup vs, c => by simp only [AV.ren, rel]; rintro ⟨cs, e1, h⟩; exact ⟨cs, e1, a6z hr vs cs h⟩
 | .map b, c => by simp only [AV.ren, rel]; rintro ⟨l, hl, e1⟩; exact ⟨l, hr _ _ hl, e1⟩
 | .rsl .., c => by simp only [AV.ren, rel]; exact id
 | .rptr .., c => by simp only [AV.ren, rel]; exact id
 | .ifc t v, c => by simp only [AV.ren, rel]; rintro ⟨u, e1, h⟩; exact ⟨u, e1, a6k hr v u h⟩
theorem a6z {r : Nat -> Nat} {ι ι' : Lay} (hr : ∀ b l, ι' b = some l -> ι (r b) = some l) : ∀ (vs : List AV) (cs : List Value), relL ι' vs cs -> relL ι (b7m r vs) cs
 | [], cs => by simp [b7m, relL]
 | v :: vs, cs => by simp only [b7m, relL]; rintro ⟨c, q, e1, h1, h2⟩; exact ⟨c, q, e1, a6k hr v c h1, a6z hr vs q h2⟩
end
theorem b50 {ρ : Nat -> Option Nat} : ∀ (xs ys : List AV), a4w ρ xs ys -> ∀ (i : Nat) (x : AV), xs[i]? = some x -> ∃ y, ys[i]? = some y /\ sub ρ x y
 | [], ys, _, i, x, h => by simp at h
 | x :: r, ys, h, i, u, hu => by
  simp only [a4w] at h
  obtain ⟨y, r', rfl, h1, h2⟩ := h
  cases i with
  | zero => simp at hu; subst hu; exact ⟨y, rfl, h1⟩
  | succ i => simpa using b50 r r' h2 i u (by simpa using hu)
theorem b6w (r : Nat -> Nat) : ∀ (vs : List AV) (i : Nat), (b7m r vs)[i]? = (vs[i]?).map (·.ren r)
 | [], i => by simp [b7m]
 | v :: vs, i => by cases i <;> simp [b7m, b6w r vs]
theorem c1l {ρ : Nat -> Option Nat} {ι : Lay} {w : World} {k k' : Blk} {b x : Nat} (h : a3n ρ k k') (hx : ρ b = some x) (hb : BR ι w x k') : BR (a1s ρ ι) w b k := by
 have hι : a1s ρ ι b = ι x := by simp [a1s, hx]
 cases k with
 | gone => trivial
 | var cs =>
  obtain ⟨cs', rfl, hs⟩ := h
  obtain ⟨l, C, t, h1, h2, h3, h4⟩ := hb
  refine ⟨l, C, t, by rw [hι]; exact h1, h2, h3, fun j v hj => ?_⟩
  obtain ⟨y, q1, q2⟩ := b50 _ _ hs j v hj
  obtain ⟨c, r1, r2, r3⟩ := h4 j y q1
  exact ⟨c, r1, r2, a5a v y c q2 r3⟩
 | arr rw t e n c =>
  rcases h with ⟨rw', t', n', c', ⟨rfl, hnn⟩, hrw, hs⟩ | ⟨hrw, hn, cs', rfl, hs⟩
  rotate_left
  ·obtain ⟨l, C, t, h1, ⟨h2, h2'⟩, h3, h4⟩ := hb
   subst hn
   refine .inr ⟨l, by rw [hι]; exact h1, h2', fun i hi j hj => ?_, fun hr => by rw [hrw] at hr; cases hr⟩
   have hi0 : i = 0 := by omega
   subst hi0
   obtain ⟨v, q1, q2⟩ := hs j hj
   obtain ⟨cv, r1, r2, r3⟩ := h4 j v q1
   refine ⟨cv, ?_, r2, a5a _ _ cv q2 r3⟩
   rw [cell_of_row w l.g _ C t (0, 0) h3, h2, <- r1]
   congr 1; omega
  rcases hb with ⟨h1, h2⟩ | ⟨l, h1, h2, h3, h4⟩
  ·exact .inl ⟨by omega, by rw [hι]; exact h2⟩
  ·refine .inr ⟨l, by rw [hι]; exact h1, Nat.le_trans hnn h2, fun i hi j hj => ?_, fun hr => ?_⟩
   ·obtain ⟨cv, r1, r2, r3⟩ := h3 i (by omega) j hj
    exact ⟨cv, r1, r2, a5a _ _ cv (hs i hi j hj) r3⟩
   ·obtain ⟨e1, rfl⟩ := hrw hr
    exact h4 e1
 | map ka ks c =>
  obtain ⟨ks', c', he, rfl, hs⟩ := h
  have key : ∃ (l : Loc) (es : Array MapEntry) (clock : Nat), ι x = some l /\ w.heap[l.g]? = some (.map es clock) /\ MapR ι ka ks' c' es.toList /\ MapKept.Stamped es clock := a60 he hb
  obtain ⟨l, es, clock, h1, h2, h3, h4⟩ := key
  exact ⟨l, es, clock, by rw [hι]; exact h1, h2, ⟨h3.keys, h3.len, h3.nodup, fun i k e a1 a2 => a5a _ _ _ (hs k (List.mem_of_getElem? a1)) (h3.vals i k e a1 a2)⟩, h4⟩
 | mapg ka ks c es clock =>
  obtain ⟨c', rfl, hs⟩ := h
  obtain ⟨l, h1, h2, h3, h4⟩ := hb
  exact ⟨l, by rw [hι]; exact h1, h2, ⟨h3.keys, h3.len, h3.nodup, fun i k e a1 a2 => a5a _ _ _ (hs k (List.mem_of_getElem? a1)) (h3.vals i k e a1 a2)⟩, h4⟩
 | iter m ka es clock S last =>
  obtain ⟨m', last', hm, rfl, hl⟩ := h
  obtain ⟨l, lm, seen, h1, h2, h3, h4⟩ := hb
  refine ⟨l, lm, seen, by rw [hι]; exact h1, by simp [a1s, hm, h2], h3, h4.seen_iff, fun k hk => ?_, h4.len⟩
  rcases hl with rfl | rfl
  ·cases hk
  ·exact h4.last_is k hk
 | fam rw t te e n r o y =>
  obtain ⟨rw', t', te', r', y', ⟨rfl, hy⟩, hrw, hso, hs⟩ := h
  rcases hb with ⟨h1, h2, h3⟩ | ⟨l, h1, h2, h3, h4⟩
  ·exact .inl ⟨h1, by rw [hι]; exact h2, h3⟩
  ·refine .inr ⟨l, by rw [hι]; exact h1, h2, ⟨fun i hi ho => ?_, fun i hi ho => ?_⟩, fun hr => ?_⟩
   rotate_left
   ·obtain ⟨a, m, q1, q2, q3⟩ := h3.2 i hi ho
    have s1 := hso i hi ho
    refine ⟨a, m, by rw [s1]; exact q1, by omega, fun hk => ?_⟩
    obtain ⟨ly, e1, e2⟩ := q3 hk
    rcases hy with hy | hy
    ·rw [hy] at ho; cases ho
    ·exact ⟨ly, by simp [a1s, hy, e1], e2⟩
   rotate_left
   ·obtain ⟨a, m, q1, q2, q3⟩ := h3.1 i hi ho
    obtain ⟨s1, s2⟩ := hs i hi ho
    refine ⟨a, m, by rw [s1]; exact q1, by omega, fun hk => ?_⟩
    obtain ⟨g, p, e1, e0, e2, e3⟩ := q3 hk
    refine ⟨g, p, e1, e0, fun y hy j hj => ?_, fun hr => ?_⟩
    ·obtain ⟨cv, r1, r2, r3⟩ := e2 y (by omega) j hj
     exact ⟨cv, r1, r2, a5a _ _ cv (s2 y hy j hj) r3⟩
    ·obtain ⟨u1, rfl, rfl⟩ := hrw hr
     exact e3 u1
   ·obtain ⟨u1, rfl, rfl⟩ := hrw hr
    exact h4 u1
 | row c i => trivial
 | rows rw e n hd r =>
  obtain ⟨rw', n', hd', r', rfl, hrw, hs⟩ := h
  rcases hb with ⟨h1, h2⟩ | ⟨l, h1, h2⟩
  ·refine .inl ⟨?_, by rw [hι]; exact h2⟩
   rcases Nat.eq_zero_or_pos n with h | h
   ·exact h
   ·obtain ⟨i', hi', _⟩ := hs 0 h; omega
  ·refine .inr ⟨l, by rw [hι]; exact h1, fun i hi => ?_⟩
   obtain ⟨i', hi', s1, s2, s3⟩ := hs i hi
   obtain ⟨a, k, q1, q2, q3⟩ := h2 i' hi'
   refine ⟨a, k, by rw [s1, s2]; exact q1, by omega, fun hk => ?_⟩
   obtain ⟨g, p, e1, e2, e3⟩ := q3 hk
   exact ⟨g, p, e1, e2, fun x hx j hj => by rw [s3 x hx j hj]; exact e3 x (by omega) j hj⟩
 | obj o =>
  obtain ⟨_, rfl, rfl⟩ := h
  obtain ⟨l, h1, h2⟩ := hb
  exact ⟨l, by rw [hι]; exact h1, h2⟩
theorem c4i {ι : Lay} {w : World} {k : Blk} {b : Nat} (h : b61 k) (hb : ι b = none) : BR ι w b k := by
 cases k with
 | gone => trivial
 | var cs => exact h.elim
 | arr rw t e n c => exact .inl ⟨h, hb⟩
 | map ka ks c => exact h.elim
 | mapg ka ks c es clock => exact h.elim
 | iter m ka es clock S last => exact h.elim
 | fam rw t te e n r o y => exact .inl ⟨h.1, hb, h.2⟩
 | row c i => exact h.elim
 | rows rw e n hd r => exact .inl ⟨h, hb⟩
 | obj o => exact h.elim
theorem c3v {r : Nat -> Nat} {ι ι' : Lay} {w : World} {k : Blk} {b x : Nat} (hr : ∀ b l, ι' b = some l -> ι (r b) = some l) (hx : ι x = ι' b) (hb : BR ι' w b k) : BR ι w x (k.ren r) := by
 cases k with
 | gone => trivial
 | var cs =>
  obtain ⟨l, C, t, h1, h2, h3, h4⟩ := hb
  refine ⟨l, C, t, hx.trans h1, h2, h3, fun j v hj => ?_⟩
  rw [b6w] at hj
  cases hc : cs[j]? with
  | none => simp [hc] at hj
  | some u =>
   simp only [hc, Option.map_some, Option.some.injEq] at hj
   subst hj
   obtain ⟨c, r1, r2, r3⟩ := h4 j u hc
   exact ⟨c, r1, r2, a6k hr u c r3⟩
 | arr rw t e n c =>
  rcases hb with ⟨h1, h2⟩ | ⟨l, h1, h2, h3, h4⟩
  ·exact .inl ⟨h1, hx.trans h2⟩
  ·refine .inr ⟨l, hx.trans h1, h2, fun i hi j hj => ?_, h4⟩
   obtain ⟨cv, r1, r2, r3⟩ := h3 i hi j hj
   exact ⟨cv, r1, r2, a6k hr _ cv r3⟩
 | map ka ks c =>
  obtain ⟨l, es, clock, h1, h2, h3, h4⟩ := hb
  exact ⟨l, es, clock, hx.trans h1, h2, ⟨h3.keys, h3.len, h3.nodup, fun i k e a1 a2 => a6k hr _ _ (h3.vals i k e a1 a2)⟩, h4⟩
 | mapg ka ks c es clock =>
  obtain ⟨l, h1, h2, h3, h4⟩ := hb
  exact ⟨l, hx.trans h1, h2, ⟨h3.keys, h3.len, h3.nodup, fun i k e a1 a2 => a6k hr _ _ (h3.vals i k e a1 a2)⟩, h4⟩
 | iter m ka es clock S last =>
  obtain ⟨l, lm, seen, h1, h2, h3, h4⟩ := hb
  exact ⟨l, lm, seen, ⟨hx.trans h1.1, h1.2⟩, hr _ _ h2, h3, h4⟩
 | fam rw t te e n q o y =>
  rcases hb with ⟨h1, h2, h3⟩ | ⟨l, h1, h2, h3, h4⟩
  ·exact .inl ⟨h1, hx.trans h2, h3⟩
  ·refine .inr ⟨l, hx.trans h1, h2, ⟨fun i hi ho => ?_, fun i hi ho => ?_⟩, h4⟩
   ·obtain ⟨a, m, q1, q2, q3⟩ := h3.1 i hi ho
    refine ⟨a, m, q1, q2, fun hk => ?_⟩
    obtain ⟨g, p, e1, e0, e2, e3⟩ := q3 hk
    refine ⟨g, p, e1, e0, fun y hy j hj => ?_, e3⟩
    obtain ⟨cv, r1, r2, r3⟩ := e2 y hy j hj
    exact ⟨cv, r1, r2, a6k hr _ cv r3⟩
   ·obtain ⟨a, m, q1, q2, q3⟩ := h3.2 i hi ho
    refine ⟨a, m, q1, q2, fun hk => ?_⟩
    obtain ⟨ly, e1, e2⟩ := q3 hk
    exact ⟨ly, hr _ _ e1, e2⟩
 | row c i => trivial
 | rows rw e n hd q =>
  rcases hb with ⟨h1, h2⟩ | ⟨l, h1, h2⟩
  ·exact .inl ⟨h1, hx.trans h2⟩
  ·exact .inr ⟨l, hx.trans h1, h2⟩
 | obj o =>
  obtain ⟨l, h1, h2⟩ := hb
  exact ⟨l, hx.trans h1, h2⟩
theorem b2z {r : Nat -> Nat} {ι ι' : Lay} {w : World} {k : Blk} {b x g : Nat} (hx : ι x = ι' b) (h : foot ι w x (k.ren r) g) : foot ι' w b k g := by
 obtain ⟨l, h1, h2⟩ := h
 refine ⟨l, hx ▸ h1, h2.imp id fun h2 => ?_⟩
 cases k <;> first | exact h2 | exact h2.elim
theorem a4f {ρ : Nat -> Option Nat} {bs : Nat -> Blk} : ∀ (xs : Ix) (ks : List Blk), a4x ρ bs xs ks -> xs.length = ks.length /\
  ∀ b, (∀ x, xs[b]? = some (some x) -> a3n ρ (blL ks b) (bs x)) /\ (xs[b]? = some none -> b61 (blL ks b)) /\ (xs[b]? = none -> blL ks b = .gone)
 | [], [], _ => ⟨rfl, fun b => by simp [blL]⟩
 | [], _ :: _, h => by simp [a4x] at h
 | none :: _, [], h => by simp [a4x] at h
 | some _ :: _, [], h => by simp [a4x] at h
 | none :: xs, k :: ks, h => by
  simp only [a4x] at h
  obtain ⟨h1, h2⟩ := a4f xs ks h.2
  refine ⟨by simp [h1], fun b => ?_⟩
  cases b with
  | zero => simp [blL, h.1]
  | succ b => simpa [blL] using h2 b
 | some x :: xs, k :: ks, h => by
  simp only [a4x] at h
  obtain ⟨h1, h2⟩ := a4f xs ks h.2
  have h3 := a1m ((b1j _ _).1 h.1)
  refine ⟨by simp [h1], fun b => ?_⟩
  cases b with
  | zero => simp [blL, h3]
  | succ b => simpa [blL] using h2 b
theorem a6w {x : Nat} : ∀ (xs : Ix), b74 x xs = true -> ∀ i : Nat, xs[i]? ≠ some (some x)
 | [], _, i => by simp
 | none :: r, h, i => by
  cases i with
  | zero => simp
  | succ i => simpa using a6w r (by simpa [b74] using h) i
 | some y :: r, h, i => by
  simp only [b74, Bool.and_eq_true, Bool.not_eq_true'] at h
  cases i with
  | zero =>
   intro e
   simp at e
   subst e
   rw [Nat.beq_refl] at h
   cases h.1
  | succ i => simpa using a6w r h.2 i
theorem a67 : ∀ (xs : Ix), xs.nodup = true -> ∀ (i j x : Nat), xs[i]? = some (some x) -> xs[j]? = some (some x) -> i = j
 | [], _, i, j, x, h, _ => by simp at h
 | none :: r, h, i, j, x, hi, hj => by
  cases i with
  | zero => simp at hi
  | succ i =>
   cases j with
   | zero => simp at hj
   | succ j => rw [a67 r (by simpa [Ix.nodup] using h) i j x (by simpa using hi) (by simpa using hj)]
 | some y :: r, h, i, j, x, hi, hj => by
  simp only [Ix.nodup, Bool.and_eq_true] at h
  cases i with
  | zero =>
   simp at hi; subst hi
   cases j with
   | zero => rfl
   | succ j => exact absurd (by simpa using hj) (a6w r h.1 j)
  | succ i =>
   cases j with
   | zero => simp at hj; subst hj; exact absurd (by simpa using hi) (a6w r h.1 i)
   | succ j => rw [a67 r h.2 i j x (by simpa using hi) (by simpa using hj)]
theorem a61 (x : Nat) (r : Bool) : ∀ (xs : Ix) (ks : List Blk), b3m x r xs ks = true -> ∀ j, xs[j]? = some (some x) -> r = false /\ (blL ks j).rw = false
 | [], _, _, j, hj => by simp at hj
 | none :: xs, k :: ks, h, j, hj => by
  cases j with
  | zero => simp at hj
  | succ j => exact a61 x r xs ks h j (by simpa using hj)
 | none :: xs, [], h, j, hj => by simp [b3m] at h
 | some y :: xs, [], h, j, hj => by simp [b3m] at h
 | some y :: xs, k :: ks, h, j, hj => by
  simp only [b3m, Bool.and_eq_true] at h
  cases j with
  | zero =>
   simp at hj; subst hj
   have h1 := h.1
   rw [Nat.beq_refl] at h1
   simpa [blL] using h1
  | succ j => exact a61 x r xs ks h.2 j (by simpa using hj)
theorem a7u : ∀ (xs : Ix) (ks : List Blk), xs.lent ks = true -> ∀ (i j x : Nat), xs[i]? = some (some x) -> xs[j]? = some (some x) -> (blL ks i).rw = true -> i = j
 | [], _, _, i, j, x, h, _, _ => by simp at h
 | none :: r, [], h, i, j, x, hi, hj, _ => by simp [Ix.lent] at h
 | some y :: r, [], h, i, j, x, hi, hj, _ => by simp [Ix.lent] at h
 | none :: r, k :: ks, h, i, j, x, hi, hj, hr => by
  cases i with
  | zero => simp at hi
  | succ i =>
   cases j with
   | zero => simp at hj
   | succ j => rw [a7u r ks (by simpa [Ix.lent] using h) i j x (by simpa using hi) (by simpa using hj) hr]
 | some y :: r, k :: ks, h, i, j, x, hi, hj, hr => by
  simp only [Ix.lent, Bool.and_eq_true] at h
  cases i with
  | zero =>
   simp at hi; subst hi
   cases j with
   | zero => rfl
   | succ j =>
    have := (a61 _ _ r ks h.1 j (by simpa using hj)).1
    simp only [blL] at hr
    rw [hr] at this; cases this
  | succ i =>
   cases j with
   | zero =>
    simp at hj; subst hj
    have := (a61 _ _ r ks h.1 i (by simpa using hi)).2
    simp only [blL] at hr
    rw [hr] at this; cases this
   | succ j => rw [a7u r ks h.2 i j x (by simpa using hi) (by simpa using hj) hr]
theorem a3w {xs : Ix} {b x : Nat} : xs.at b = some x ↔ xs[b]? = some (some x) := by
 unfold Ix.at
 split
 ·rename_i y h; rw [h]; simp
 ·rename_i h
  constructor
  ·intro e; cases e
  ·intro e; exact absurd e (h x)
theorem a6a {ρ : Nat -> Option Nat} {k k' : Blk} (h : a3n ρ k k') (hr : k.rw = true) : k'.rw = true := by
 cases k with
 | gone => cases hr
 | var cs => obtain ⟨_, rfl, _⟩ := h; rfl
 | arr rw t e n c =>
  rcases h with ⟨rw', t', n', c', ⟨rfl, _⟩, h1, _⟩ | ⟨h1, _⟩
  ·exact (h1 hr).1
  ·subst h1; cases hr
 | map ka ks c => obtain ⟨_, _, e, _⟩ := h; exact a7o e
 | mapg ka ks c es clock => obtain ⟨_, rfl, _⟩ := h; rfl
 | iter m ka es clock S last => obtain ⟨_, _, _, rfl, _⟩ := h; rfl
 | fam rw t te e n r o y => obtain ⟨_, _, _, _, _, ⟨rfl, _⟩, h1, _⟩ := h; exact (h1 hr).1
 | row c i => cases hr
 | rows rw e n hd r => obtain ⟨_, _, _, _, rfl, h1, _⟩ := h; exact h1 hr
 | obj o => obtain ⟨_, rfl, _⟩ := h; rfl
theorem b3v {ρ : Nat -> Option Nat} {k k' : Blk} (h : a3n ρ k k') (hr : k.live = true) : k'.live = true := by
 cases k with
 | gone => cases hr
 | var cs => obtain ⟨_, rfl, _⟩ := h; rfl
 | arr rw t e n c => rcases h with ⟨rw', t', n', c', ⟨rfl, _⟩, h1, _⟩ | ⟨_, _, cs', rfl, _⟩ <;> rfl
 | map ka ks c => obtain ⟨_, _, e, _⟩ := h; exact a1p (a7o e)
 | mapg ka ks c es clock => obtain ⟨_, rfl, _⟩ := h; rfl
 | iter m ka es clock S last => obtain ⟨_, _, _, rfl, _⟩ := h; rfl
 | fam rw t te e n r o y => obtain ⟨_, _, _, _, _, ⟨rfl, _⟩, h1, _⟩ := h; rfl
 | row c i => cases hr
 | rows rw e n hd r => obtain ⟨_, _, _, _, rfl, _⟩ := h; rfl
 | obj o => obtain ⟨_, rfl, _⟩ := h; rfl
theorem b0h {ρ : Nat -> Option Nat} {ι : Lay} {w : World} {k k' : Blk} {b x g : Nat} (h : a3n ρ k k') (hx : ρ b = some x) (hf : foot (a1s ρ ι) w b k g) : foot ι w x k' g := by
 obtain ⟨l, h1, h2⟩ := hf
 have h1 : ι x = some l := by simpa [a1s, hx] using h1
 rcases h2 with rfl | h2
 ·exact a1g h1
 ·cases k with
  | fam rw t te e n r o y => obtain ⟨_, _, _, _, _, ⟨rfl, _⟩, _, _⟩ := h; exact ⟨l, h1, .inr h2⟩
  | rows rw e n hd r =>
   obtain ⟨_, n', hd', r', rfl, _, hs⟩ := h
   obtain ⟨i, hi, hg⟩ := h2
   obtain ⟨i', hi', s1, _⟩ := hs i hi
   exact ⟨l, h1, .inr ⟨i', hi', by rw [<- s1]; exact hg⟩⟩
  | obj o => obtain ⟨_, rfl, rfl⟩ := h; exact ⟨l, h1, .inr h2⟩
  | _ => exact h2.elim
theorem a92 : ∀ (xs : Ix) (ks : List Blk) {b x : Nat}, xs[b]? = some (some x) -> (blL ks b).live = true -> (a5e xs ks)[b]? = some (some x)
 | [], ks, b, x, h, _ => by simp at h
 | y :: r, [], b, x, h, hl => by cases b <;> simp [blL, Blk.live] at hl
 | y :: r, k :: ks, 0, x, h, hl => by
  simp only [List.getElem?_cons_zero, Option.some.injEq] at h
  subst h
  simp only [blL] at hl
  cases k <;> first | rfl | cases hl
 | y :: r, k :: ks, b + 1, x, h, hl => by
  simp only [List.getElem?_cons_succ] at h
  simp only [blL] at hl
  simpa [a5e] using a92 r ks h hl
theorem a7r {xs : Ix} {ι : Lay} {b : Nat} {l : Loc} (h : a1s xs.at ι b = some l) : ∃ x, xs[b]? = some (some x) /\ ι x = some l := by
 simp only [a1s] at h
 cases hx : xs.at b with
 | none => simp [hx] at h
 | some x => simp only [hx, Option.bind_some] at h; exact ⟨x, a3w.1 hx, h⟩
theorem c01 {E' : Amb} {ι : Lay} {bs : Nat -> Blk} {w : World} {xs : Ix} {ks : List Blk} (hs : a4x xs.at bs xs ks) (hn : ∀ b b' x, xs[b]? = some (some x) -> xs[b']? = some (some x) -> (blL ks b).rw = true -> (blL ks b').live = true -> b = b') (hbr : ∀ x, BR ι w x (bs x))
  (hsep : ∀ b b' x x' g, xs[b]? = some (some x) -> xs[b']? = some (some x') -> x ≠ x' -> (blL ks b).rw = true -> (blL ks b').live = true -> (bs x).rw = true -> (bs x').live = true -> foot ι w x (bs x) g -> foot ι w x' (bs x') g -> False)
  (hlt : ∀ x l, ι x = some l -> l.g < w.heap.size) (hflt : ∀ x g, (bs x).live = true -> foot ι w x (bs x) g -> g < w.heap.size) (hk : Keeps E'.G E'.w0 w)
  (ho : ∀ b x g, xs[b]? = some (some x) -> (blL ks b).rw = true -> foot (a1s xs.at ι) w b (blL ks b) g -> foot ι w x (bs x) g -> E'.G g \/ E'.w0.heap.size <= g)
  (hals : ∀ x b i, blL ks x = .row b i -> Als (a1s xs.at ι) (blL ks) w x b i) : WR E' (a1s xs.at ι) (blL ks) w := by
 obtain ⟨_, h⟩ := a4f xs ks hs
 have get : ∀ b g, (blL ks b).live = true -> foot (a1s xs.at ι) w b (blL ks b) g -> ∃ x, xs[b]? = some (some x) /\ foot ι w x (bs x) g /\ (bs x).live = true := by
  intro b g hl hf
  obtain ⟨l, h1, h2⟩ := hf
  obtain ⟨x, q1, q2⟩ := a7r h1
  exact ⟨x, q1, b0h ((h b).1 x q1) (a3w.2 q1) ⟨l, h1, h2⟩, b3v ((h b).1 x q1) hl⟩
 exact {
 br := fun b => by
  obtain ⟨h1, h2, h3⟩ := h b
  cases hx : xs[b]? with
  | none => rw [h3 hx]; trivial
  | some o =>
   cases o with
   | none =>
    refine c4i (h2 hx) ?_
    simp [a1s, Ix.at, hx]
   | some x => exact c1l (h1 x hx) (a3w.2 hx) (hbr x)
 sepf := fun b b' g hne hr hl h1 h2 => by
  obtain ⟨x, q1, q2, _⟩ := get b g (a1p hr) h1
  obtain ⟨x', q3, q4, q5⟩ := get b' g hl h2
  refine hsep b b' x x' g q1 q3 (fun e => hne ?_) hr hl (a6a ((h b).1 x q1) hr) q5 q2 q4
  subst e
  exact hn b b' x q1 q3 hr hl
 lt := fun b l h => by
  obtain ⟨x, _, q⟩ := a7r h
  exact hlt x l q
 flt := fun b g hl hf => by
  obtain ⟨x, _, q, q'⟩ := get b g hl hf
  exact hflt x g q' q
 amb := hk
 ownf := fun b g hr hf => by
  obtain ⟨x, q1, q2, _⟩ := get b g (a1p hr) hf
  exact ho b x g q1 hr hf q2
 als := hals }
theorem c7m {E E' : Amb} {ι : Lay} {bs : Nat -> Blk} {w : World} (hw : WR E ι bs w) {xs : Ix} {ks : List Blk} (hs : a4x xs.at bs xs ks) (hn : (a5e xs ks).nodup = true) (hk : Keeps E'.G E'.w0 w)
  (ho : ∀ b x g, xs[b]? = some (some x) -> (blL ks b).rw = true -> foot (a1s xs.at ι) w b (blL ks b) g -> foot ι w x (bs x) g -> E'.G g \/ E'.w0.heap.size <= g) : WR E' (a1s xs.at ι) (blL ks) w := by
 obtain ⟨_, h⟩ := a4f xs ks hs
 refine c01 hs (fun b b' x q1 q3 hr hl => a67 _ hn b b' x (a92 xs ks q1 (a1p hr)) (a92 xs ks q3 hl)) hw.br (fun b b' x x' g _ _ hne _ _ hr hl h1 h2 => hw.sepf x x' g hne hr hl h1 h2) hw.lt hw.flt hk ho ?_
 intro x b i hx
 obtain ⟨h1, h2, h3⟩ := h x
 have hxx : ∃ x', xs[x]? = some (some x') := by
  cases hx' : xs[x]? with
  | none => rw [h3 hx'] at hx; cases hx
  | some o =>
   cases o with
   | none => have := h2 hx'; rw [hx] at this; exact this.elim
   | some x' => exact ⟨x', rfl⟩
 obtain ⟨x', hx'⟩ := hxx
 have hs1 := h1 x' hx'
 rw [hx] at hs1
 obtain ⟨b', i', hb', hxr, rfl⟩ := hs1
 obtain ⟨l, q3, q0, hq⟩ := hw.als x' b' i' hxr
 have ex : a1s xs.at ι x = ι x' := by simp [a1s, a3w.2 hx']
 have eb : a1s xs.at ι b = ι b' := by simp [a1s, hb']
 refine ⟨l, eb.trans q3, fun hl => ?_, fun rw t te e n r o y hb => ?_⟩
 ·have hs2 := (h b).1 b' (a3w.1 hb')
  have h0 := q0 (b3v hs2 hl)
  cases hk : blL ks b with
  | fam rw t te e n r o y => rfl
  | gone => rw [hk] at hl; cases hl
  | row c j => rfl
  | var cs => rw [hk] at hs2; obtain ⟨_, e, _⟩ := hs2; rw [e] at h0; cases h0
  | arr rw t e n c =>
   rw [hk] at hs2
   rcases hs2 with ⟨_, _, _, _, ⟨e, _⟩, _⟩ | ⟨_, _, _, e, _⟩ <;> (rw [e] at h0; cases h0)
  | map ka ks c => rw [hk] at hs2; obtain ⟨_, _, e, _⟩ := hs2; rw [a6u (a4s e)] at h0; cases h0
  | mapg ka ks c es clock => rw [hk] at hs2; obtain ⟨_, e, _⟩ := hs2; rw [e] at h0; cases h0
  | iter m ka es clock S last => rw [hk] at hs2; obtain ⟨_, _, _, e, _⟩ := hs2; rw [e] at h0; cases h0
  | rows rw e n hd r => rw [hk] at hs2; obtain ⟨_, _, _, _, e, _⟩ := hs2; rw [e] at h0; cases h0
  | obj o => rw [hk] at hs2; obtain ⟨_, e, _⟩ := hs2; rw [e] at h0; cases h0
 have hs2 := (h b).1 b' (a3w.1 hb')
 rw [hb] at hs2
 obtain ⟨rw', t', te', r', y', ⟨hbb, _⟩, _, _, hsr⟩ := hs2
 obtain ⟨q1, q2, a, k, q4, q5, q6⟩ := hq _ _ _ _ _ _ _ _ hbb
 exact ⟨q1, q2, a, k, by rw [(hsr i' q1 q2).1]; exact q4, fun hk => by rw [ex]; exact q5 hk, fun hk => by rw [ex]; exact q6 hk⟩
theorem a8r {c : Nat} : ∀ (xs : Ix) (L : List Blk), b3u c xs L = true -> ∀ b, xs[b]? = some (some c) -> (blL L b).rw = false
 | [], L, _, b, h => by simp at h
 | x :: r, [], _, b, _ => by simp [blL, Blk.rw]
 | none :: r, k :: ks, h, b, hb => by
  cases b with
  | zero => simp at hb
  | succ b => simpa [blL] using a8r r ks (by simpa [b3u] using h) b (by simpa using hb)
 | some y :: r, k :: ks, h, b, hb => by
  simp only [b3u, Bool.and_eq_true, Bool.not_eq_true'] at h
  cases b with
  | zero =>
   simp only [List.getElem?_cons_zero, Option.some.injEq] at hb
   subst hb
   have := h.1
   rw [Nat.beq_refl, Bool.true_and] at this
   simpa [blL] using this
  | succ b => simpa [blL] using a8r r ks h.2 b (by simpa using hb)
theorem a7e {bs : Nat -> Blk} {xs0 : Ix} {L0 : List Blk} : ∀ (xs : Ix) (L : List Blk), a5f bs xs0 L0 xs L = true -> ∀ b x c i, xs[b]? = some (some x) -> b < L.length -> bs x = .row c i -> b3u c xs0 L0 = true
 | [], L, _, b, x, c, i, h, _, _ => by simp at h
 | x :: r, [], _, b, y, c, i, _, h, _ => by simp at h
 | none :: r, k :: ks, h, b, x, c, i, hb, hl, hx => by
  cases b with
  | zero => simp at hb
  | succ b => exact a7e r ks (by simpa [a5f] using h) b x c i (by simpa using hb) (by simpa using hl) hx
 | some y :: r, k :: ks, h, b, x, c, i, hb, hl, hx => by
  simp only [a5f, Bool.and_eq_true] at h
  cases b with
  | zero =>
   simp only [List.getElem?_cons_zero, Option.some.injEq] at hb
   subst hb
   have := h.1
   rw [hx] at this
   exact this
  | succ b => exact a7e r ks h.2 b x c i (by simpa using hb) (by simpa using hl) hx
theorem b34 {E : Amb} {ι : Lay} {bs : Nat -> Blk} {w : World} (hw : WR E ι bs w) {x g : Nat} (hl : (look bs x).live = true) (hf : foot ι w x (look bs x) g) :
  (look bs x = bs x /\ (bs x).live = true /\ foot ι w x (bs x) g) \/ ∃ c i, bs x = .row c i /\ (look bs x).rw = false /\ (bs c).live = true /\ foot ι w c (bs c) g := by
 by_cases hx : ∃ c i, bs x = .row c i
 ·obtain ⟨c, i, hx⟩ := hx
  right
  refine ⟨c, i, hx, ?_⟩
  rw [a45 hx] at hf hl ⊢
  cases hc : bs c with
  | fam rw t te e n r o y =>
   rw [hc] at hf
   obtain ⟨lx, f1, f2⟩ := a4n rfl hf
   obtain ⟨l, h1, _, hq⟩ := hw.als x c i hx
   obtain ⟨hi, ho, a, k, h2, h3, h4⟩ := hq rw t te e n r o y hc
   have hk : 0 < k := by
    rcases Nat.eq_zero_or_pos k with hk | hk
    ·rw [h4 hk] at f1; cases f1
    ·exact hk
   obtain ⟨lx', f3, f4, _⟩ := h3 hk
   rw [f1] at f3; cases f3
   refine ⟨rfl, rfl, l, h1, .inr ⟨i, hi, ho, lx.o, (r i).1, k, ?_, hk⟩⟩
   rw [h2, f4, f2]
  | _ => rw [hc] at hl; cases hl
 ·left
  have := a3b (fun b i h => hx ⟨b, i, h⟩)
  rw [this] at hf hl
  exact ⟨this, hl, hf⟩
theorem b2x {E E' : Amb} {ι : Lay} {bs : Nat -> Blk} {w : World} (hw : WR E ι bs w) {xs : Ix} {L : List Blk} (hs : a4x xs.at (look bs) xs L) (hnd : a81 bs xs L = true) (hk : Keeps E'.G E'.w0 w)
  (ho : ∀ b x g, xs[b]? = some (some x) -> (blL L b).rw = true -> foot (a1s xs.at ι) w b (blL L b) g -> foot ι w x (bs x) g -> E'.G g \/ E'.w0.heap.size <= g) : WR E' (a1s xs.at ι) (blL L) w := by
 obtain ⟨hlen, h⟩ := a4f xs L hs
 simp only [a81, Bool.and_eq_true] at hnd
 refine c01 hs (fun b b' x q1 q3 hr _ => a7u xs L hnd.1 b b' x q1 q3 hr) hw.look ?_ hw.lt ?_ hk ?_ ?_
 ·intro b b' x x' g hx hx' hne hr hl hr' hl' h1 h2
  rw [a6b hr'] at h1 hr'
  rcases b34 hw hl' h2 with ⟨_, q2, q3⟩ | ⟨c, i, q1, _, q2, q3⟩
  ·exact hw.sepf x x' g hne hr' q2 h1 q3
  ·have hb' : b' < L.length := by have := (List.getElem?_eq_some_iff.1 hx').1; omega
   have hnr := a7e xs L hnd.2 b' x' c i hx' hb' q1
   refine hw.sepf x c g (fun e => ?_) hr' q2 h1 q3
   subst e
   rw [a8r xs L hnr b hx] at hr; cases hr
 ·intro x g hl hf
  rcases b34 hw hl hf with ⟨_, q2, q3⟩ | ⟨c, i, q1, _, q2, q3⟩
  ·exact hw.flt x g q2 q3
  ·exact hw.flt c g q2 q3
 ·intro b x g hx hr h1 h2
  have hr' := a6a ((h b).1 x hx) hr
  rw [a6b hr'] at h2
  exact ho b x g hx hr h1 h2
 ·intro x b i hx
  exfalso
  obtain ⟨h1, h2, h3⟩ := h x
  cases hx' : xs[x]? with
  | none => rw [h3 hx'] at hx; cases hx
  | some o =>
   cases o with
   | none => have := h2 hx'; rw [hx] at this; exact this.elim
   | some x' =>
    have hs1 := h1 x' hx'
    rw [hx] at hs1
    obtain ⟨b', i', _, hxr, _⟩ := hs1
    by_cases hxx : ∃ c i, bs x' = .row c i
    ·obtain ⟨c, i, hxx⟩ := hxx
     rw [a45 hxx] at hxr
     cases hc : bs c <;> rw [hc] at hxr <;> cases hxr
    ·rw [a3b (fun b i h => hxx ⟨b, i, h⟩)] at hxr
     exact hxx ⟨_, _, hxr⟩
end Go.Vx
namespace Go.Vx
variable {P : Program}
theorem b2p (xs0 : Ix) (sl : Nat) {y : Nat} {k : Blk} : ∀ (r : Ix) (L Bl : List Blk) (j : Nat), (y, k) ∈ a1x xs0 sl r L Bl j ->
  (∃ i x, r[i]? = some (some x) /\ (blL L i).rw = true /\ i < L.length /\ y = x /\ k = (blL Bl i).ren (rb xs0 sl)) \/
  (∃ m, L.length + m < Bl.length /\ y = sl + (j + m) /\ k = (blL Bl (L.length + m)).ren (rb xs0 sl))
 | [], [], [], j, h => by simp [a1x] at h
 | [], [], b :: Bl, j, h => by
  simp only [a1x, List.mem_cons, Prod.mk.injEq] at h
  rcases h with ⟨rfl, rfl⟩ | h
  ·exact .inr ⟨0, by simp, by simp, by simp [blL]⟩
  ·rcases b2p xs0 sl [] [] Bl (j + 1) h with ⟨i, x, h1, _⟩ | ⟨m, h1, h2, h3⟩
   ·simp at h1
   ·refine .inr ⟨m + 1, by simp at h1 ⊢; omega, by omega, ?_⟩
    simpa [blL] using h3
 | [], _ :: _, _, j, h => by simp [a1x] at h
 | _ :: _, [], _, j, h => by simp [a1x] at h
 | _ :: _, _ :: _, [], j, h => by simp [a1x] at h
 | none :: r, l :: L, b :: Bl, j, h => by
  simp only [a1x] at h
  rcases b2p xs0 sl r L Bl j h with ⟨i, x, h1, h2, h3, h4, h5⟩ | ⟨m, h1, h2, h3⟩
  ·exact .inl ⟨i + 1, x, by simpa using h1, by simpa [blL] using h2, by simp; omega, h4, by simpa [blL] using h5⟩
  ·refine .inr ⟨m, by simp; omega, h2, ?_⟩
   rw [List.length_cons, show L.length + 1 + m = (L.length + m) + 1 from by omega]
   exact h3
 | some x0 :: r, l :: L, b :: Bl, j, h => by
  have tail : (y, k) ∈ a1x xs0 sl r L Bl j -> _ := fun h => b2p xs0 sl r L Bl j h
  have lift : ((∃ i x, r[i]? = some (some x) /\ (blL L i).rw = true /\ i < L.length /\ y = x /\ k = (blL Bl i).ren (rb xs0 sl)) \/
    (∃ m, L.length + m < Bl.length /\ y = sl + (j + m) /\ k = (blL Bl (L.length + m)).ren (rb xs0 sl))) ->
    (∃ (i : Nat) (x : Nat), (some x0 :: r)[i]? = some (some x) /\ (blL (l :: L) i).rw = true /\ i < (l :: L).length /\ y = x /\ k = (blL (b :: Bl) i).ren (rb xs0 sl)) \/
    (∃ m, (l :: L).length + m < (b :: Bl).length /\ y = sl + (j + m) /\ k = (blL (b :: Bl) ((l :: L).length + m)).ren (rb xs0 sl)) := by
   rintro (⟨i, x, h1, h2, h3, h4, h5⟩ | ⟨m, h1, h2, h3⟩)
   ·exact .inl ⟨i + 1, x, by simpa using h1, by simpa [blL] using h2, by simp; omega, h4, by simpa [blL] using h5⟩
   ·refine .inr ⟨m, by simp; omega, h2, ?_⟩
    rw [List.length_cons, show L.length + 1 + m = (L.length + m) + 1 from by omega]
    exact h3
  simp only [a1x] at h
  cases hl : l.rw with
  | false => simp only [hl, cond_false] at h; exact lift (tail h)
  | true =>
   simp only [hl, cond_true, List.mem_cons, Prod.mk.injEq] at h
   rcases h with ⟨rfl, rfl⟩ | h
   ·exact .inl ⟨0, _, by simp, by simpa [blL] using hl, by simp, rfl, by simp [blL]⟩
   ·exact lift (tail h)
theorem b2m (xs0 : Ix) (sl : Nat) : ∀ (r : Ix) (L Bl : List Blk) (j i x : Nat), r.length = L.length -> L.length <= Bl.length -> r[i]? = some (some x) -> (blL L i).rw = true -> (x, (blL Bl i).ren (rb xs0 sl)) ∈ a1x xs0 sl r L Bl j
 | [], _, _, _, i, x, _, _, h, _ => by simp at h
 | _ :: _, [], _, _, _, _, h, _, _, _ => by simp at h
 | _ :: _, _ :: _, [], _, _, _, _, h, _, _ => by simp at h
 | o :: r, l :: L, b :: Bl, j, 0, x, h1, h2, h3, h4 => by
  simp at h3; subst h3
  have hl : l.rw = true := by simpa [blL] using h4
  simp [a1x, hl, blL]
 | o :: r, l :: L, b :: Bl, j, i + 1, x, h1, h2, h3, h4 => by
  have ih := b2m xs0 sl r L Bl j i x (by simpa using h1) (by simpa using h2) (by simpa using h3) (by simpa [blL] using h4)
  simp only [a1x, blL]
  cases o with
  | none => exact ih
  | some y =>
   cases hl : l.rw with
   | false => simpa [hl] using ih
   | true => simp only [cond_true]; exact List.mem_cons_of_mem _ ih
theorem b5k (xs0 : Ix) (sl : Nat) : ∀ (r : Ix) (L Bl : List Blk) (j m : Nat), r.length = L.length -> L.length + m < Bl.length -> (sl + (j + m), (blL Bl (L.length + m)).ren (rb xs0 sl)) ∈ a1x xs0 sl r L Bl j
 | [], [], [], _, _, _, h => by simp at h
 | [], [], b :: Bl, j, 0, _, _ => by simp [a1x, blL]
 | [], [], b :: Bl, j, m + 1, _, h => by
  have ih := b5k xs0 sl [] [] Bl (j + 1) m rfl (by simp at h ⊢; omega)
  simp only [a1x, List.mem_cons]
  right
  rw [show j + (m + 1) = j + 1 + m from by omega]
  simpa [blL] using ih
 | [], _ :: _, _, _, _, h, _ => by simp at h
 | _ :: _, [], _, _, _, h, _ => by simp at h
 | _ :: _, _ :: _, [], _, _, _, h => by simp at h
 | o :: r, l :: L, b :: Bl, j, m, h1, h2 => by
  have ih := b5k xs0 sl r L Bl j m (by simpa using h1) (by simp at h2; omega)
  have e : blL (b :: Bl) ((l :: L).length + m) = blL Bl (L.length + m) := by
   rw [List.length_cons, show L.length + 1 + m = (L.length + m) + 1 from by omega]; rfl
  rw [e]
  simp only [a1x]
  cases o with
  | none => exact ih
  | some y =>
   cases hl : l.rw with
   | false => simpa [hl] using ih
   | true => simp only [cond_true]; exact List.mem_cons_of_mem _ ih
theorem a54 : ∀ (l : List Blk) (b : Nat), (blL l b).live = true -> b < l.length
 | [], b, h => by simp [blL, Blk.live] at h
 | _ :: _, 0, _ => by simp
 | _ :: r, b + 1, h => by have := a54 r b (by simpa [blL] using h); simp; omega
theorem a71 (k : Blk) (r : Nat -> Nat) : (k.ren r).live = k.live := by cases k <;> rfl
theorem b3o {k : Blk} {r : Nat -> Nat} {b i : Nat} (h : k.ren r = .row b i) : False := by cases k <;> cases h
theorem c33 (k : Blk) (r : Nat -> Nat) : (k.ren r).rw = k.rw := by cases k <;> rfl
theorem a77 {bs : Nat -> Blk} {p : Nat -> Bool} : ∀ {l : List Nat} {x : Nat} {k : Blk}, (x, k) ∈ b20 bs p l -> k = .gone /\ ∃ b i, bs x = .row b i
 | [], _, _, h => by simp [b20] at h
 | y :: r, x, k, h => by
  simp only [b20] at h
  split at h
  ·rename_i b i hy
   cases hp : p b with
   | true =>
    rw [hp] at h
    simp only [cond_true, List.mem_cons, Prod.mk.injEq] at h
    rcases h with ⟨rfl, rfl⟩ | h
    ·exact ⟨rfl, b, i, hy⟩
    ·exact a77 h
   | false => rw [hp] at h; exact a77 h
  ·exact a77 h
theorem b5q {bs : Nat -> Blk} {p : Nat -> Bool} {x b i : Nat} (hx : bs x = .row b i) (hp : p b = true) : ∀ {l : List Nat}, x ∈ l -> (x, Blk.gone) ∈ b20 bs p l
 | [], h => by simp at h
 | y :: r, h => by
  simp only [List.mem_cons] at h
  simp only [b20]
  rcases h with rfl | h
  ·rw [hx]; simp [hp]
  ·have ih := b5q hx hp h
   split
   ·rename_i b' i' hy
    cases p b' with
    | true => simp only [cond_true]; exact List.mem_cons_of_mem _ ih
    | false => exact ih
   ·exact ih
theorem a8k : ∀ (L : List Blk), a6h L = true -> ∀ b, b3a (blL L b) = false
 | [], _, b => by simp [blL, b3a]
 | k :: ks, h, b => by
  simp only [a6h, Bool.and_eq_true, Bool.not_eq_true'] at h
  cases b with
  | zero => simpa [blL] using h.1
  | succ b => simpa [blL] using a8k ks h.2 b
theorem a8g {c : Nat} : ∀ (xs : Ix) (L : List Blk) (b : Nat), xs[b]? = some (some c) -> b3a (blL L b) = true -> b4z c xs L = true
 | [], L, b, h, _ => by simp at h
 | x :: r, [], b, _, h => by simp [blL, b3a] at h
 | none :: r, k :: ks, b, hb, h => by
  cases b with
  | zero => simp at hb
  | succ b => simpa [b4z] using a8g r ks b (by simpa using hb) (by simpa [blL] using h)
 | some y :: r, k :: ks, b, hb, h => by
  cases b with
  | zero =>
   simp only [List.getElem?_cons_zero, Option.some.injEq] at hb
   subst hb
   simp only [blL] at h
   simp [b4z, h]
  | succ b =>
   have := a8g r ks b (by simpa using hb) (by simpa [blL] using h)
   simp [b4z, this]
theorem c0j (n f b : Nat) (h : f <= b) (h' : b < f + n) : b ∈ range' n f := by
 induction n generalizing f with
 | zero => omega
 | succ n ih =>
  simp only [range', List.mem_cons]
  by_cases e : b = f
  ·exact .inl e
  ·exact .inr (ih (f + 1) (by omega) (by omega))
structure Kills (bs : Nat -> Blk) (xs : Ix) (L : List Blk) (kl : List (Nat × Blk)) : Prop where
 mem : ∀ x k, (x, k) ∈ kl -> k = .gone /\ ∃ b i, bs x = .row b i
 all : ∀ x b i j, bs x = .row b i -> xs[j]? = some (some b) -> b3a (blL L j) = true -> (x, .gone) ∈ kl
theorem b7s {bs : Nat -> Blk} {sl : Nat} {xs : Ix} {L : List Blk} (hs : ∀ b, sl <= b -> bs b = .gone) : Kills bs xs L (a47 bs sl xs L) := by
 unfold a47
 cases h : a6h L with
 | true => exact ⟨fun x k hk => by simp at hk, fun x b i j _ _ hf => by rw [a8k L h j] at hf; cases hf⟩
 | false =>
  refine ⟨fun x k hk => a77 hk, fun x b i j hx hj hf => b5q hx (a8g xs L j hj hf) (c0j _ _ _ (Nat.zero_le _) ?_)⟩
  rcases Nat.lt_or_ge x sl with h1 | h1
  ·omega
  ·rw [hs x h1] at hx; cases hx
theorem b4e {bs : Nat -> Blk} {xs : Ix} {L : List Blk} (h : a6h L = true) : Kills bs xs L [] :=
 ⟨fun x k hk => by simp at hk, fun x b i j _ _ hf => by rw [a8k L h j] at hf; cases hf⟩
theorem b1a {E : Amb} {ι : Lay} {bs : Nat -> Blk} {w : World} (hW : WR E ι bs w) {sl : Nat} {xs : Ix} {L : List Blk} (hB : a4x xs.at (look bs) xs L) (hnd : a81 bs xs L = true)
  {kl : List (Nat × Blk)} (hkl : Kills bs xs L kl)
  {V : AV} {Bl : List Blk} {v : Value} {ι' : Lay} {w' : World} (hf : ∀ b, sl <= b -> b < upF sl L Bl -> ι b = none /\ bs b = .gone) (hlen : L.length <= Bl.length) (hrel : rel ι' V v)
  (hlow : ∀ b, b < L.length -> ι' b = a1s xs.at ι b) (hdom' : ∀ b, Bl.length <= b -> ι' b = none) (hrwi : ∀ b, (blL Bl b).live = true -> (blL Bl b).rw = true \/ (b < L.length /\ (blL L b).rw = false))
  (hW' : WR (a8i (a1s xs.at ι) (blL L) w) ι' (blL Bl) w') :
  ∃ ιn, sl <= upF sl L Bl /\ rel ιn (V.ren (rb xs sl)) v /\ DeltaG ι bs sl (upF sl L Bl) w ιn (a1x xs sl xs L Bl 0 ++ kl) w' := by
 obtain ⟨hlen0, hBat⟩ := a4f xs L hB
 simp only [a81, Bool.and_eq_true] at hnd
 obtain ⟨hnd, hro⟩ := hnd
 let ιx := a1s xs.at ι
 have hupf := b5r sl L Bl hlen
 generalize hf' : upF sl L Bl = f' at hf hupf
 let ιn : Lay := fun b => if sl <= b /\ b < f' then ι' (L.length + (b - sl)) else ι b
 have nin : ∀ b, sl <= b -> b < f' -> ιn b = ι' (L.length + (b - sl)) := fun b h1 h2 => by simp [ιn, h1, h2]
 have nout : ∀ b, b < sl \/ f' <= b -> ιn b = ι b := fun b h => by
  have : ¬ (sl <= b /\ b < f') := by omega
  simp only [ιn, if_neg this]
 have lent : ∀ b l, b < L.length -> ι' b = some l -> ∃ x, xs[b]? = some (some x) /\ ι x = some l /\ (x < sl \/ f' <= x) := by
  intro b l hb hl
  rw [hlow b hb] at hl
  obtain ⟨x, q1, q2⟩ := a7r hl
  refine ⟨x, q1, q2, ?_⟩
  rcases Nat.lt_or_ge x sl with h' | h'
  ·exact .inl h'
  ·rcases Nat.lt_or_ge x (f') with h'' | h''
   ·rw [(hf x h' h'').1] at q2; cases q2
   ·exact .inr h''
 have rlent : ∀ b x, xs[b]? = some (some x) -> rb xs sl b = x := fun b x h => by simp [rb, h]
 have rnew : ∀ b, L.length <= b -> rb xs sl b = sl + (b - L.length) := fun b h => by
  have : xs[b]? = none := List.getElem?_eq_none (by omega)
  simp [rb, this, hlen0]
 have hr : ∀ b l, ι' b = some l -> ιn (rb xs sl b) = some l := by
  intro b l hl
  rcases Nat.lt_or_ge b L.length with h1 | h1
  ·obtain ⟨x, q1, q2, q3⟩ := lent b l h1 hl
   rw [rlent b x q1, nout x q3]; exact q2
  ·have h2 : b < Bl.length := by
    rcases Nat.lt_or_ge b Bl.length with h | h
    ·exact h
    ·rw [hdom' b h] at hl; cases hl
   rw [rnew b h1, nin _ (by omega) (by omega), show L.length + (sl + (b - L.length) - sl) = b from by omega]
   exact hl
 have xout : ∀ b x, xs[b]? = some (some x) -> (blL L b).rw = true -> (bs x).rw = true /\ (x < sl \/ f' <= x) /\ look bs x = bs x := by
  intro b x hx hrw
  have h1 := a6a ((hBat b).1 x hx) hrw
  have h2 := a6b h1
  rw [h2] at h1
  refine ⟨h1, ?_, h2⟩
  rcases Nat.lt_or_ge x sl with h' | h'
  ·exact .inl h'
  ·rcases Nat.lt_or_ge x (f') with h'' | h''
   ·rw [(hf x h' h'').2] at h1; cases h1
   ·exact .inr h''
 have upmem : ∀ y k, (y, k) ∈ a1x xs sl xs L Bl 0 ++ kl -> (∃ i, xs[i]? = some (some y) /\ (blL L i).rw = true /\ i < L.length /\ k = (blL Bl i).ren (rb xs sl)) \/ (∃ m, L.length + m < Bl.length /\ y = sl + m /\ k = (blL Bl (L.length + m)).ren (rb xs sl)) \/ (k = .gone /\ ∃ b i, bs y = .row b i) := by
  intro y k hm
  rcases List.mem_append.1 hm with hm | hm
  ·rcases b2p xs sl xs L Bl 0 hm with ⟨i, x, h1, h2, h3, rfl, h5⟩ | ⟨m, h1, h2, h3⟩
   ·exact .inl ⟨i, h1, h2, h3, h5⟩
   ·exact .inr (.inl ⟨m, h1, by omega, h3⟩)
  ·exact .inr (.inr (hkl.mem y k hm))
 have slotrow : ∀ m, L.length + m < Bl.length -> ∀ b i, bs (sl + m) ≠ .row b i := fun m hm b i e => by
  rw [(hf (sl + m) (by omega) (by omega)).2] at e; cases e
 have upval_lent : ∀ i x, xs[i]? = some (some x) -> (blL L i).rw = true -> i < L.length -> a1i bs (a1x xs sl xs L Bl 0 ++ kl) x = (blL Bl i).ren (rb xs sl) := by
  intro i x hx hrw hi
  have hin := List.mem_append_left kl (b2m xs sl xs L Bl 0 i x hlen0 hlen hx hrw)
  rcases a09 bs (a1x xs sl xs L Bl 0 ++ kl) x with ⟨k, h1, h2⟩ | ⟨h1, _⟩
  ·rw [h2]
   rcases upmem x k h1 with ⟨i', q1, q2, q3, q4⟩ | ⟨m, q1, q2, q3⟩ | ⟨_, b, i', q⟩
   ·rw [a7u xs L hnd i i' x hx q1 hrw]; exact q4
   ·have := (xout i x hx hrw).2.1; omega
   ·have := (xout i x hx hrw).1; rw [q] at this; cases this
  ·exact absurd hin (h1 _)
 have upval_new : ∀ m, L.length + m < Bl.length -> a1i bs (a1x xs sl xs L Bl 0 ++ kl) (sl + m) = (blL Bl (L.length + m)).ren (rb xs sl) := by
  intro m hm
  have hin := b5k xs sl xs L Bl 0 m hlen0 hm
  rw [Nat.zero_add] at hin
  have hin := List.mem_append_left kl hin
  rcases a09 bs (a1x xs sl xs L Bl 0 ++ kl) (sl + m) with ⟨k, h1, h2⟩ | ⟨h1, _⟩
  ·rw [h2]
   rcases upmem (sl + m) k h1 with ⟨i', q1, q2, q3, q4⟩ | ⟨m', q1, q2, q3⟩ | ⟨_, b, i', q⟩
   ·have := (xout i' _ q1 q2).2.1; omega
   ·have : m' = m := by omega
    subst this; exact q3
   ·exact absurd q (slotrow m hm b i')
  ·exact absurd hin (h1 _)
 have upval_kill : ∀ y k, (y, k) ∈ a1x xs sl xs L Bl 0 ++ kl -> (∃ b i, bs y = .row b i) -> a1i bs (a1x xs sl xs L Bl 0 ++ kl) y = .gone := by
  rintro y k hk ⟨b, i, hy⟩
  rcases a09 bs (a1x xs sl xs L Bl 0 ++ kl) y with ⟨k', h1, h2⟩ | ⟨h1, _⟩
  ·rw [h2]
   rcases upmem y k' h1 with ⟨i', q1, q2, q3, q4⟩ | ⟨m', q1, rfl, q3⟩ | ⟨q, _⟩
   ·have := (xout i' y q1 q2).1; rw [hy] at this; cases this
   ·exact absurd hy (slotrow m' q1 b i)
   ·exact q
  ·exact absurd hk (h1 _)
 have turned : ∀ b k, (b, k) ∈ a1x xs sl xs L Bl 0 ++ kl -> (a1i bs (a1x xs sl xs L Bl 0 ++ kl) b).live = true -> ∃ j, a1i bs (a1x xs sl xs L Bl 0 ++ kl) b = (blL Bl j).ren (rb xs sl) /\ ιn b = ι' j /\ b = rb xs sl j /\ (blL Bl j).rw = true := by
  intro b k hk hl
  rcases upmem b k hk with ⟨i, q1, q2, q3, q4⟩ | ⟨m, q1, rfl, q3⟩ | ⟨_, q⟩
  ·have e := upval_lent i b q1 q2 q3
   refine ⟨i, e, ?_, (rlent i b q1).symm, ?_⟩
   ·rw [nout b (xout i b q1 q2).2.1, hlow i q3]; simp [a1s, a3w.2 q1]
   ·rw [e, a71] at hl
    rcases hrwi i hl with h | ⟨_, h⟩
    ·exact h
    ·rw [q2] at h; cases h
  ·have e := upval_new m q1
   refine ⟨L.length + m, e, ?_, ?_, ?_⟩
   ·rw [nin _ (by omega) (by omega), show sl + m - sl = m from by omega]
   ·rw [rnew _ (by omega)]; omega
   ·rw [e, a71] at hl
    rcases hrwi _ hl with h | ⟨h, _⟩
    ·exact h
    ·omega
  ·rw [upval_kill b k hk q] at hl; cases hl
 have gin : ∀ g, (a8i (a1s xs.at ι) (blL L) w).G g -> ∃ x k, (x, k) ∈ a1x xs sl xs L Bl 0 ++ kl /\ (bs x).rw = true /\ foot ι w x (bs x) g := by
  rintro g ⟨b, h1, h2⟩
  obtain ⟨l, h3, h4⟩ := h2
  obtain ⟨x, q1, q2⟩ := a7r h3
  obtain ⟨u1, u2, u3⟩ := xout b x q1 h1
  have := b0h ((hBat b).1 x q1) (a3w.2 q1) ⟨l, h3, h4⟩
  rw [u3] at this
  exact ⟨x, _, List.mem_append_left _ (b2m xs sl xs L Bl 0 b x hlen0 hlen q1 h1), u1, this⟩
 refine ⟨ιn, by omega, a6k hr V v hrel, ?_⟩
 try rw [hf']
 exact {
  ext := nout
  br := by
   rintro b ⟨k, hk⟩
   rcases upmem b k hk with ⟨i, q1, q2, q3, q4⟩ | ⟨m, q1, rfl, q3⟩ | ⟨_, q⟩
   ·rw [upval_lent i b q1 q2 q3]
    refine c3v hr ?_ (hW'.br i)
    rw [nout b (xout i b q1 q2).2.1, hlow i q3]
    simp [a1s, a3w.2 q1]
   ·rw [upval_new m q1]
    refine c3v hr ?_ (hW'.br _)
    rw [nin _ (by omega) (by omega), show sl + m - sl = m from by omega]
   ·rw [upval_kill b k hk q]; trivial
  os := hW'.amb.os
  tape := hW'.amb.tape
  output := hW'.amb.output
  size := hW'.amb.size
  keep := fun g hg hk => by
   refine hW'.amb.block g hg fun hG => ?_
   obtain ⟨x, k, q1, q2, q3⟩ := gin g hG
   exact hk x k q1 q2 q3
  lt := fun b l h1 h2 h3 => by rw [nin b h1 h2] at h3; exact hW'.lt _ l h3
  orig := fun b k g hk hl hft => by
   obtain ⟨j, e1, e2, e3, e4⟩ := turned b k hk hl
   rw [e1] at hft
   have hft := b2z e2 hft
   rcases hW'.ownf j g e4 hft with hG | q
   ·exact .inr (gin g hG)
   ·exact .inl ⟨q, hW'.flt j g (a1p e4) hft⟩
  one := fun b b' k k' g hne hk hk' hrw hl h1 h2 => by
   obtain ⟨j, e1, e2, e3, e4⟩ := turned b k hk (a1p hrw)
   obtain ⟨j', e1', e2', e3', e4'⟩ := turned b' k' hk' hl
   rw [e1] at h1
   rw [e1'] at h2
   exact hW'.sepf j j' g (fun e => hne (by rw [e3, e3', e])) e4 (a1p e4') (b2z e2 h1) (b2z e2' h2)
  rwn := fun b k hk hl => by
   rcases upmem b k hk with ⟨i, q1, q2, q3, rfl⟩ | ⟨m, q1, rfl, rfl⟩ | ⟨rfl, _⟩
   ·rw [a71] at hl
    rw [c33]
    rcases hrwi i hl with h | ⟨_, h⟩
    ·exact h
    ·rw [q2] at h; cases h
   ·rw [a71] at hl
    rw [c33]
    rcases hrwi _ hl with h | ⟨h, _⟩
    ·exact h
    ·omega
   ·cases hl
  upr := fun b k hk => by
   rcases upmem b k hk with ⟨i, q1, q2, q3, _⟩ | ⟨m, q1, rfl, _⟩ | ⟨rfl, q⟩
   ·exact .inr (.inl (xout i b q1 q2).1)
   ·exact .inl (by omega)
   ·exact .inr (.inr q)
  als := fun x b i hx => by
   have hx0 : ∀ k, (x, k) ∉ a1x xs sl xs L Bl 0 ++ kl := fun k hk => by
    rcases upmem x k hk with ⟨j, q1, q2, q3, _⟩ | ⟨m, q1, rfl, _⟩ | ⟨_, q⟩
    ·rw [upval_lent j x q1 q2 q3] at hx; exact b3o hx
    ·rw [upval_new m q1] at hx; exact b3o hx
    ·rw [upval_kill x k hk q] at hx; cases hx
   have hxb : bs x = .row b i := by
    rcases a09 bs (a1x xs sl xs L Bl 0 ++ kl) x with ⟨k', h1, _⟩ | ⟨_, h2⟩
    ·exact absurd h1 (hx0 k')
    ·rw [<- h2]; exact hx
   obtain ⟨l, q1, q2, _⟩ := hW.als x b i hxb
   by_cases hrow : (∃ c i', bs b = .row c i') /\ ∃ k, (b, k) ∈ a1x xs sl xs L Bl 0 ++ kl
   ·obtain ⟨hrow, k, hk⟩ := hrow
    have hg := upval_kill b k hk hrow
    refine .inr ⟨l, ?_, (by rw [hg]; intro h; cases h), fun rw t te e n r o y h => by rw [hg] at h; cases h⟩
    rw [nout b ?_]
    ·exact q1
    ·rcases Nat.lt_or_ge b sl with h' | h'
     ·exact .inl h'
     ·rcases Nat.lt_or_ge b f' with h'' | h''
      ·rw [(hf b h' h'').1] at q1; cases q1
      ·exact .inr h''
   refine .inl ⟨hx0, fun k hk => ?_⟩
   rcases upmem b k hk with ⟨j, s1, s2, s3, _⟩ | ⟨m, s1, rfl, _⟩ | ⟨_, c, i', s⟩
   ·obtain ⟨u1, u2, u3⟩ := xout j b s1 s2
    have hp := q2 (a1p u1)
    have hfam : b3a (blL L j) = true := by
     have hs := (hBat j).1 b s1
     rw [u3] at hs
     cases hk : blL L j with
     | fam rw t te e n r o y =>
      rw [hk] at s2
      have : rw = true := s2
      subst this; rfl
     | gone => rw [hk] at s2; cases s2
     | row c j => rw [hk] at s2; cases s2
     | var cs => rw [hk] at hs; obtain ⟨_, e, _⟩ := hs; rw [e] at hp; cases hp
     | arr rw t e n c =>
      rw [hk] at hs
      rcases hs with ⟨_, _, _, _, ⟨e, _⟩, _⟩ | ⟨_, _, _, e, _⟩ <;> (rw [e] at hp; cases hp)
     | map ka ks c => rw [hk] at hs; obtain ⟨_, _, e, _⟩ := hs; rw [a6u (a4s e)] at hp; cases hp
     | mapg ka ks c es clock => rw [hk] at hs; obtain ⟨_, e, _⟩ := hs; rw [e] at hp; cases hp
     | iter m ka es clock S last => rw [hk] at hs; obtain ⟨_, _, _, e, _⟩ := hs; rw [e] at hp; cases hp
     | rows rw e n hd r => rw [hk] at hs; obtain ⟨_, _, _, _, e, _⟩ := hs; rw [e] at hp; cases hp
     | obj o => rw [hk] at hs; obtain ⟨_, e, _⟩ := hs; rw [e] at hp; cases hp
    exact hx0 _ (List.mem_append_right _ (hkl.all x b i j hxb s1 hfam))
   ·rw [(hf (sl + m) (by omega) (by omega)).1] at q1; cases q1
   ·exact hrow ⟨⟨c, i', s⟩, k, hk⟩ }
theorem b01 {E : Amb} {ι : Lay} {bs : Nat -> Blk} {w : World} (hW : WR E ι bs w) {sl : Nat} {g : FuncId} {args : List AV} {cs : List Value} (ha : relL ι args cs)
  {xs : Ix} {args' : List AV} {L : List Blk} {R : AV -> List Blk -> Prop} (hR : Runs P g args' L R) (hsub : a4w xs.at args' args) (hB : a4x xs.at (look bs) xs L) (hnd : a81 bs xs L = true) {kl : List (Nat × Blk)} (hkl : Kills bs xs L kl)
  (hfR : ∀ V Bl, R V Bl -> ∀ b, sl <= b -> b < upF sl L Bl -> ι b = none /\ bs b = .gone) :
  (∀ as w, (callFunc g as).run P w = .ok (.enter g as) w) /\
  Calls P g cs.toArray w fun e w' => ∃ V Bl c ι', e = .returned c /\ R V Bl /\ sl <= upF sl L Bl /\ rel ι' (V.ren (rb xs sl)) c /\ DeltaG ι bs sl (upF sl L Bl) w ι' (a1x xs sl xs L Bl 0 ++ kl) w' := by
 obtain ⟨hlen0, hBat⟩ := a4f xs L hB
 let ιx := a1s xs.at ι
 have hW1 : WR E ιx (blL L) w := b2x hW hB hnd hW.amb fun b x g hx hr h1 h2 => hW.ownf x g (by have := a6a ((hBat b).1 x hx) hr; rw [a6b this] at this; exact this) h2
 have hWx : WR (a8i ιx (blL L) w) ιx (blL L) w := b2x hW hB hnd (Keeps.refl _ _ (hW1.globG fun g h => h)) fun b x g hx hr h1 h2 => .inl ⟨b, hr, h1⟩
 have hdom : ∀ b, L.length <= b -> ιx b = none := by
  intro b hb
  have : xs[b]? = none := List.getElem?_eq_none (by omega)
  simp [ιx, a1s, Ix.at, this]
 refine ⟨hR.1, (hR.2 w ιx cs hWx hdom (a43 _ _ _ hsub ha)).mono ?_⟩
 rintro e w' ⟨V, Bl, v, ι', rfl, hRV, hlen, hrel, hlow, hdom', hrwi, hW'⟩
 obtain ⟨ιn, q1, q2, q3⟩ := b1a hW hB hnd hkl (sl := sl) (hfR V Bl hRV) hlen hrel hlow hdom' hrwi hW'
 exact ⟨V, Bl, v, ιn, rfl, hRV, q1, q2, q3⟩
theorem b3k {E : Amb} {ι : Lay} {bs : Nat -> Blk} {w : World} (hW : WR E ι bs w) {sl : Nat} {g : FuncId} {args : List AV} {cs : List Value} (ha : relL ι args cs)
  {xs : Ix} {args' : List AV} {L : List Blk} (hR : c8h P g args' L) (hsub : a4w xs.at args' args) (hB : a4x xs.at (look bs) xs L) (hnd : (a81 bs xs L && a6h L) = true) (hrw : ∀ b, (blL L b).live = true -> b < L.length) :
  (∀ as w, (callFunc g as).run P w = .ok (.enter g as) w) /\
  Calls P g cs.toArray w fun e w' => (∃ u pv, e = .panicked [{ v := .iface u pv, recovered := false }]) /\ DeltaG ι bs sl sl w ι (a1x xs sl xs L L 0) w' := by
 obtain ⟨hlen0, hBat⟩ := a4f xs L hB
 simp only [Bool.and_eq_true] at hnd
 have hW1 : WR E (a1s xs.at ι) (blL L) w := b2x hW hB hnd.1 hW.amb fun b x g hx hr h1 h2 => hW.ownf x g (by have := a6a ((hBat b).1 x hx) hr; rw [a6b this] at this; exact this) h2
 have hWx : WR (a8i (a1s xs.at ι) (blL L) w) (a1s xs.at ι) (blL L) w := b2x hW hB hnd.1 (Keeps.refl _ _ (hW1.globG fun g h => h)) fun b x g hx hr h1 h2 => .inl ⟨b, hr, h1⟩
 have hdom : ∀ b, L.length <= b -> a1s xs.at ι b = none := by
  intro b hb
  have : xs[b]? = none := List.getElem?_eq_none (by omega)
  simp [a1s, Ix.at, this]
 refine ⟨hR.1, (hR.2 w _ cs hWx hdom (a43 _ _ _ hsub ha)).mono ?_⟩
 rintro e w' ⟨he, hW'⟩
 have hupf : upF sl L L = sl := by rw [b5r sl L L (Nat.le_refl _)]; omega
 obtain ⟨ιn, q1, q2, q3⟩ := b1a hW hB hnd.1 (b4e hnd.2) (sl := sl) (V := .dead) (v := undef) (fun b h1 h2 => by omega) (Nat.le_refl _) trivial (fun _ _ => rfl) hdom (fun b hb => by
  by_cases hr : (blL L b).rw = true
  ·exact .inl hr
  ·exact .inr ⟨hrw b hb, by simpa using hr⟩) hW'
 rw [hupf, List.append_nil] at q3
 have : ιn = ι := funext fun b => q3.ext b (by omega)
 rw [this] at q3
 exact ⟨he, q3⟩
theorem b7l {E : Amb} {ι : Lay} {bs : Nat -> Blk} {w : World} (hW : WR E ι bs w) {sl : Nat} (hf : ∀ b, sl <= b -> ι b = none /\ bs b = .gone) {g : FuncId} {args : List AV} {cs : List Value} (ha : relL ι args cs)
  {K : AV -> List (Nat × Blk) -> Nat -> Prop} (h : b08 P g args bs sl K) :
  (∀ as w, (callFunc g as).run P w = .ok (.enter g as) w) /\
  Calls P g cs.toArray w fun e w' => ∃ V up f' c ι', e = .returned c /\ K V up f' /\ sl <= f' /\ rel ι' V c /\ Step E ι bs sl f' ι' up w' := by
 obtain ⟨gs, xs, args', L, R, hR, hsub, hgh⟩ := h
 obtain ⟨acc, ⟨hB, hnd, hK⟩, hst, hgo⟩ := a4t gs [] (Step.refl hW) (fun b hb => (hf b hb).2) hgh
 obtain ⟨h1, h2⟩ := b01 hst.wr ha hR hsub hB hnd (b7s (sl := sl) hgo) (sl := sl) fun _ _ _ b hb _ => ⟨(hf b hb).1, hgo b hb⟩
 refine ⟨h1, h2.mono ?_⟩
 rintro e w' ⟨V, Bl, c, ι', rfl, hRV, a1, a2, a3⟩
 have hs := Step.trans (hst.wide a1) (a3.step (fun b h1 _ => ⟨(hf b h1).1, hgo b h1⟩) hst.wr)
 rw [List.append_assoc] at hs
 exact ⟨_, _, _, c, ι', rfl, hK V Bl hRV, a1, a2, hs⟩
end Go.Vx

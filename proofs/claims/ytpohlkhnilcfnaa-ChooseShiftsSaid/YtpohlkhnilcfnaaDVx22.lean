/- Lemmas of a small executor for the model, and contracts of functions, used for the law that this claim proves. No condition. -/
import Derived.Test.YtpohlkhnilcfnaaDVx4
import Derived.MapKept
set_option linter.unusedSimpArgs false
set_option linter.unusedVariables false
/- Maps: a new one, a look into one, an entry more. -/
namespace Go.Vx
variable {P : Program} {ι : Lay} {bs : Nat → Blk} {f f' : Nat} {w : World}

/-- A new object. -/
theorem new_obj (hf : ∀ b, f ≤ b → b < f' → ι b = none ∧ bs b = .gone) (hff : f < f') (o : Obj) (n : Nat) (k : Blk) (hkr : k.rw = true)
    (hbr : ∀ ι' w', ι' f = some ⟨w.heap.size, 0, n⟩ → Ext ι ι' → w'.heap[w.heap.size]? = some o → BR ι' w' f k) {v : AV} {c : Value}
    (hv : ∀ ι', ι' f = some ⟨w.heap.size, 0, n⟩ → Ext ι ι' → rel ι' v c) {r : Result Next} (hr : r = .ok (.value c) (w.alloc o)) :
    Post ι bs f f' w r v [(f, k)] := by
  let ι' : Lay := fun x => if x = f then some ⟨w.heap.size, 0, n⟩ else ι x
  have hself : ι' f = some ⟨w.heap.size, 0, n⟩ := by simp [ι']
  have hoth : ∀ x, x ≠ f → ι' x = ι x := fun x hx => by simp [ι', hx]
  have hext : Ext ι ι' := fun b l hl => by
    by_cases hb : b = f
    · subst hb; have := (hf b (by omega) (by omega)).1; rw [this] at hl; cases hl
    · rw [hoth b hb]; exact hl
  have hnew : (w.alloc o).heap[w.heap.size]? = some o := (MapKept.heap_alloc w o).1
  have hsize : (w.alloc o).heap.size = w.heap.size + 1 := by simp
  refine ⟨c, _, ι', .inl hr, hv ι' hself hext, ?_⟩
  exact {
    ext := fun b hb => hoth b (by omega)
    br := by
      rintro b' ⟨k', hk'⟩
      simp only [List.mem_singleton, Prod.mk.injEq] at hk'
      obtain ⟨rfl, rfl⟩ := hk'
      rw [updL_cons_same]
      exact hbr ι' _ hself hext hnew
    os := rfl
    tape := rfl
    output := rfl
    size := by rw [hsize]; omega
    keep := fun g hg _ => (MapKept.heap_alloc w o).2 g hg
    lt := fun b l h1 h2 h3 => by
      by_cases hb : b = f
      · subst hb; rw [hself] at h3; cases h3; rw [hsize]; exact Nat.lt_succ_self _
      · rw [hoth b hb, (hf b h1 h2).1] at h3; cases h3
    fresh := fun b l h1 h2 _ h3 => by
      by_cases hb : b = f
      · subst hb; rw [hself] at h3; cases h3; exact .inl (Nat.le_refl _)
      · rw [hoth b hb, (hf b h1 h2).1] at h3; cases h3
    rwn := by
      intro b' k' hk' _
      simp only [List.mem_singleton, Prod.mk.injEq] at hk'
      rw [hk'.2]; exact hkr
    one := fun b b' l l' h1 h2 h3 h4 hne _ _ h5 h6 => by
      by_cases hb : b = f
      · rw [hoth b' (by omega), (hf b' h3 h4).1] at h6; cases h6
      · rw [hoth b hb, (hf b h1 h2).1] at h5; cases h5
    upr := by
      intro b' k' hk'
      simp only [List.mem_singleton, Prod.mk.injEq] at hk'
      exact .inl (by omega) }

theorem op_makeMap (hf : ∀ b, f ≤ b → b < f' → ι b = none ∧ bs b = .gone) (hff : f < f') (t : TypeId) (ka : Option Nat) {r : Result Next}
    (hr : r = .ok (.value (.map (some w.heap.size))) (w.alloc (.map #[] 0))) : Post ι bs f f' w r (.map f) [(f, .map ka [] fun _ => .dead)] :=
  new_obj hf hff (.map #[] 0) 0 (.map ka [] fun _ => .dead) rfl (fun ι' w' h1 _ h2 => ⟨_, #[], 0, h1, h2, ⟨by simp, by simp, by simp, by simp⟩⟩)
    (v := .map f) (c := .map (some w.heap.size)) (fun ι' h1 _ => by simp only [rel]; exact ⟨_, h1, rfl⟩) hr

/-- The keys' kind, as the model sees it. -/
theorem key_of {T : Tab} (hT : TabOK P T) {kt : TypeId} {ka : Option Nat} (hk : kaOf (T.get kt) = some ka) {v : AV} {c : Value} (hv : rel ι v c) {n : List Int} (hn : keyOf ka v = some n) :
    ∃ d, P.underlying kt = some d ∧ MapKept.IsKey d c ∧ c = keyV ka n ∧ n.length = ka.getD 1 ∧ ∀ m : List Int, MapKept.IsKey d (keyV ka m) := by
  unfold kaOf at hk
  split at hk
  · rename_i hd
    simp only [Option.some.injEq] at hk
    subst hk
    have hu := tk_int (Tab.get_ok hT hd) rfl
    unfold keyOf at hn
    split at hn
    · simp only [Option.some.injEq] at hn
      subst hn
      simp only [rel] at hv
      subst hv
      exact ⟨_, hu, by simp [MapKept.IsKey], rfl, rfl, fun m => by simp [MapKept.IsKey, keyV]⟩
    · contradiction
    · cases hn
  · cases hk

theorem keyV_inj {ka : Option Nat} {a b : List Int} (ha : a.length = ka.getD 1) (hb : b.length = ka.getD 1) (h : keyV ka a = keyV ka b) : a = b := by
  cases ka with
  | none =>
    simp only [Option.getD_none] at ha hb
    match a, b, ha, hb with
    | [x], [y], _, _ => simp [keyV] at h; rw [h]
  | some n =>
    simp only [keyV, Value.agg.injEq] at h
    have h' := congrArg Array.toList h
    simp only at h'
    exact (List.map_inj_right (f := Value.int .i64) (fun x y e => by simpa using e)).1 h'

/-- What a look for a key finds. -/
theorem find_key {d : TypeDesc} {ka : Option Nat} {ks : List (List Int)} {c : List Int → AV} {es : List MapEntry} (h : MapR ι ka ks c es) (hd : ∀ m : List Int, MapKept.IsKey d (keyV ka m))
    {n : List Int} (hn : n.length = ka.getD 1) :
    (ks.contains n = false ∧ Instr.findNow d (keyV ka n) es 0 = some none) ∨
    ∃ j e, ks[j]? = some n ∧ es[j]? = some e ∧ ks.contains n = true ∧ Instr.findNow d (keyV ka n) es 0 = some (some (j, e.val)) ∧ e.key = keyV ka n := by
  have hat : ∀ (j : Nat) (e : MapEntry), es[j]? = some e → ∃ m, ks[j]? = some m ∧ e.key = keyV ka m := by
    intro j e he
    have h1 : (es.map (·.key))[j]? = some e.key := by rw [List.getElem?_map, he]; rfl
    rw [h.keys, List.getElem?_map] at h1
    cases hk : ks[j]? with
    | none => rw [hk] at h1; cases h1
    | some m => rw [hk] at h1; simp only [Option.map_some, Option.some.injEq] at h1; exact ⟨m, rfl, h1.symm⟩
  have hall : ∀ x ∈ es, MapKept.IsKey d x.key := by
    intro x hx
    obtain ⟨j, hj⟩ := List.mem_iff_getElem?.1 hx
    obtain ⟨m, _, e⟩ := hat j x hj
    rw [e]; exact hd m
  rcases MapKept.findNow_spec (hd n) es 0 hall with ⟨h1, h2⟩ | ⟨j, e, h1, h2, h3⟩
  · refine .inl ⟨?_, h1⟩
    rw [Bool.eq_false_iff]
    intro hc
    have hm : n ∈ ks := by simpa using hc
    obtain ⟨j, hj⟩ := List.mem_iff_getElem?.1 hm
    have h4 : (es.map (·.key))[j]? = some (keyV ka n) := by rw [h.keys, List.getElem?_map, hj]; rfl
    rw [List.getElem?_map] at h4
    cases he : es[j]? with
    | none => rw [he] at h4; cases h4
    | some e =>
      rw [he] at h4
      simp only [Option.map_some, Option.some.injEq] at h4
      exact h2 e (List.mem_of_getElem? he) h4
  · obtain ⟨m, hm, he⟩ := hat j e h2
    have : m = n := keyV_inj (h.len m (List.mem_of_getElem? hm)) hn (by rw [← he, h3])
    subst this
    exact .inr ⟨j, e, hm, h2, by simpa using List.mem_of_getElem? hm, by simpa using h1, h3⟩

theorem zero_rel {t : TypeId} {d : TyD} (h : tkOf P t = some d) {v : AV} (hv : zeroAV d = some v) (w : World) : ∃ z : Value, (zeroValue t).run P w = .ok z w ∧ rel ι v z := by
  obtain ⟨i, u, z, hi, hu, hz, _, _, h0, hk, _, hzo⟩ := tk_info h
  refine ⟨z, by simp [zeroValue, typeInfo, hi, hz], ?_⟩
  unfold zeroAV at hv
  cases ha : d.k.agg with
  | true =>
    simp only [ha, cond_true] at hv
    obtain ⟨h1, rfl⟩ := bif_some hv
    have hag : ∃ cs, z = .agg cs := by
      cases u <;> rw [hk] at ha <;> simp [TK.agg] at ha <;> cases z <;> simp_all [zeroOK]
    obtain ⟨cs, rfl⟩ := hag
    rw [h0] at h1 ⊢
    simp only [Value.cells] at h1 ⊢
    simp only [rel]
    refine ⟨cs.toList, by simp, relL_map_val _ _, fun x hx => ?_⟩
    have hall : ∀ l : List Value, allOne (l.map .val) = true → ∀ x ∈ l, x.oneCell' = true := by
      intro l
      induction l with
      | nil => intro _ x hx; cases hx
      | cons a r ih =>
        intro hh x hx
        simp only [List.map_cons, allOne, Bool.and_eq_true] at hh
        rcases List.mem_cons.1 hx with rfl | hx
        · cases x <;> simp_all [AV.one, Value.oneCell']
        · exact ih hh.2 x hx
    exact hall _ h1 x hx
  | false =>
    simp only [ha, cond_false] at hv
    split at hv
    · rename_i z' hz'
      simp only [Option.some.injEq] at hv
      subst hv
      simp only [rel]
      rw [h0] at hz'
      have hna : z.cells = #[z] := by
        cases u <;> rw [hk] at ha <;> simp [TK.agg] at ha <;> cases z <;> simp_all [zeroOK, Value.cells]
      rw [hna] at hz'
      simpa using hz'
    · cases hv

theorem okV_rel {ok : Bool} {v : AV} {c : Value} (h : rel ι v c) (b : Bool) : rel ι (okV ok v b) (if ok then .tuple #[c, .bool b] else c) := by
  cases ok
  · simpa [okV] using h
  · simp only [okV, rel, if_true]
    exact ⟨[c, .bool b], rfl, by simp [relL, h, rel]⟩

/-- A look into a map. -/
theorem mapLk_run {T : Tab} (hT : TabOK P T) {ρ : Operand → AV} {ca : Operand → Value} (hρ : ∀ x, rel ι (ρ x) (ca x)) (hb : ∀ b, BR ι w b (bs b)) {o : Oper} {q : Bool} {v z : AV}
    (h : mapLk T o.op ρ bs = some (q, v, z)) : ∃ c, (execOp ca o).run P w = .ok (.value c) w ∧ (q = true → rel ι v c) ∧ (q = false → rel ι z c) := by
  unfold mapLk at h
  split at h
  · rename_i t x ix ok ho
    split at h
    · rename_i kt et _ _ _ _ hd
      have hum : P.underlying t = some (.map kt et) := by
        obtain ⟨i, u, z, _, hu, _, _, _, _, hk', hfo, _⟩ := tk_info (Tab.get_ok hT hd)
        cases u <;> simp at hk'
        obtain ⟨rfl, rfl⟩ := hk'; exact hu
      split at h
      · rename_i ka' de hka hde
        split at h
        · rename_i z0 n b hz hn hx
          split at h
          · rename_i ka ks c hbb
            obtain ⟨hk, hh⟩ := bif_some h
            have := kaEq_eq hk
            subst this
            obtain ⟨rfl, rfl, rfl⟩ : ks.contains n = q ∧ okV ok (c n) true = v ∧ okV ok z0 false = z := by simpa only [Prod.mk.injEq] using hh
            obtain ⟨d, hu, hik, hce, hlen, hall⟩ := key_of hT hka (hρ ix) hn
            obtain ⟨zv, hzr, hzrel⟩ := zero_rel (ι := ι) (Tab.get_ok hT hde) hz w
            have hbr := hb b
            rw [hbb] at hbr
            obtain ⟨l, es, clock, h1, h2, h3⟩ := hbr
            have hxx := hρ x
            rw [hx] at hxx
            simp only [rel] at hxx
            obtain ⟨l', h1', hxv⟩ := hxx
            rw [h1] at h1'; cases h1'
            have hg := MapKept.run_getObj_map (P := P) h2
            have hck := MapKept.run_checkKey (P := P) (w := w) hu hik es.isEmpty 9999
            rcases find_key h3 hall hlen with ⟨hc, hf⟩ | ⟨j, e, hkj, hej, hc, hf, hek⟩
            · rw [← hce] at hf
              have hfk := MapKept.run_findKey (P := P) (w := w) hu hf
              refine ⟨if ok then .tuple #[zv, .bool false] else zv, ?_, fun e => (by rw [hc] at e; cases e), fun _ => okV_rel hzrel false⟩
              simp [execOp, ho, Instr.lookup, hxv, run_underlying hum, hg, hck, hfk, hzr, Result.andThen]
            · rw [← hce] at hf
              have hfk := MapKept.run_findKey (P := P) (w := w) hu hf
              refine ⟨if ok then .tuple #[e.val, .bool true] else e.val, ?_, fun _ => okV_rel (h3.vals j n e hkj hej) true, fun e => (by rw [hc] at e; cases e)⟩
              simp [execOp, ho, Instr.lookup, hxv, run_underlying hum, hg, hck, hfk, Result.andThen]
          · cases h
        · rename_i z0 n hz hn hx
          simp only [Option.some.injEq, Prod.mk.injEq] at h
          obtain ⟨rfl, rfl, rfl⟩ := h
          obtain ⟨d, hu, hik, hce, hlen, hall⟩ := key_of hT hka (hρ ix) hn
          obtain ⟨zv, hzr, hzrel⟩ := zero_rel (ι := ι) (Tab.get_ok hT hde) hz w
          have hxx := hρ x
          rw [hx] at hxx
          simp only [rel] at hxx
          have hck := MapKept.run_checkKey (P := P) (w := w) hu hik true 9999
          have hfk : (Instr.findKey kt (ca ix) []).run P w = .ok none w := MapKept.run_findKey (P := P) (w := w) hu rfl
          refine ⟨if ok then .tuple #[zv, .bool false] else zv, ?_, fun e => (by cases e), fun _ => okV_rel hzrel false⟩
          simp [execOp, ho, Instr.lookup, hxx, run_underlying hum, hck, hfk, hzr, Result.andThen]
        · cases h
      · cases h
    · cases h
  · cases h

theorem sameBits_key (ka : Option Nat) (n : List Int) : Instr.sameBits 10000 (keyV ka n) (keyV ka n) = true := by
  cases ka with
  | none => simp [keyV, Instr.sameBits]
  | some m =>
    simp only [keyV, Instr.sameBits, BEq.rfl, Bool.true_and, List.all_eq_true]
    rintro ⟨x, y⟩ hxy
    have hh : x = y ∧ x ∈ n.map (Value.int .i64) := by
      obtain ⟨i, hi⟩ := List.mem_iff_getElem?.1 hxy
      rw [List.getElem?_zip_eq_some] at hi
      have := hi.1.symm.trans hi.2
      exact ⟨by simpa using this, List.mem_of_getElem? hi.1⟩
    obtain ⟨rfl, hm⟩ := hh
    obtain ⟨a, _, rfl⟩ := List.mem_map.1 hm
    simp [Instr.sameBits]

/-- An entry more, or another value of an entry. -/
theorem op_mapUpdate {T : Tab} (hT : TabOK P T) {t kt et : TypeId} (hum : P.underlying t = some (.map kt et)) {ka : Option Nat} (hka : kaOf (T.get kt) = some ka) (hf : ∀ b, f ≤ b → b < f' → ι b = none ∧ bs b = .gone)
    {b : Nat} (hb : BR ι w b (bs b)) (hlt : ∀ l, ι b = some l → l.g < w.heap.size) {ks : List (List Int)} {F : List Int → AV} (hbb : bs b = .map ka ks F) {vk v : AV} {n : List Int} (hn : keyOf ka vk = some n)
    {c k u : Value} (hc : rel ι (.map b) c) (hk : rel ι vk k) (hu : rel ι v u) :
    Post ι bs f f' w ((do Instr.mapUpdate t c k u; pure .skip : Sem Next).run P w) .dead [(b, .map ka (addKey ks n) (updK F n v))] := by
  obtain ⟨d, hud, hik, rfl, hlen, hall⟩ := key_of hT hka hk hn
  rw [hbb] at hb
  obtain ⟨l, es, clock, h1, h2, h3⟩ := hb
  simp only [rel] at hc
  obtain ⟨l', h1', rfl⟩ := hc
  rw [h1] at h1'; cases h1'
  have hg := MapKept.run_getObj_map (P := P) h2
  have hck := MapKept.run_checkKey (P := P) (w := w) hud hik false 9999
  have hst : ∀ o, (setObj l.g o).run P w = .ok () { w with heap := w.heap.setIfInBounds l.g o } := fun o => MapKept.run_setObj_map o h2
  have hbf : b < f ∨ f' ≤ b := by
    rcases Nat.lt_or_ge b f with h | h
    · exact .inl h
    · rcases Nat.lt_or_ge b f' with h' | h'
      · have := (hf b h h').1; rw [this] at h1; cases h1
      · exact .inr h'
  have hbrw : (bs b).rw = true := by rw [hbb]; rfl
  have hsl : ∀ b, f ≤ b → b < f' → ι b = none := fun b h1 h2 => (hf b h1 h2).1
  have fin : ∀ (es' : Array MapEntry) (clock' : Nat), MapR ι ka (addKey ks n) (updK F n v) es'.toList →
      ((do Instr.mapUpdate t (.map (some l.g)) (keyV ka n) u; pure .skip : Sem Next).run P w) = .ok .skip { w with heap := w.heap.setIfInBounds l.g (.map es' clock') } →
      Post ι bs f f' w ((do Instr.mapUpdate t (.map (some l.g)) (keyV ka n) u; pure .skip : Sem Next).run P w) .dead [(b, .map ka (addKey ks n) (updK F n v))] := by
    intro es' clock' hr hrun
    have hset := MapKept.heap_set (o' := .map es' clock') h2
    refine ⟨undef, _, ι, .inr ⟨hrun, rfl⟩, by simp [rel], ?_⟩
    exact {
      ext := fun _ _ => rfl
      br := by
        rintro b' ⟨k', hk'⟩
        simp only [List.mem_singleton, Prod.mk.injEq] at hk'
        obtain ⟨rfl, rfl⟩ := hk'
        rw [updL_cons_same]
        exact ⟨l, es', clock', h1, hset.1, hr⟩
      os := rfl
      tape := rfl
      output := rfl
      size := by simp
      keep := fun g _ hk => hset.2 g (fun e => hk b _ l (List.mem_singleton.2 rfl) hbrw h1 e.symm)
      lt := fun b' l' q1 q2 q3 => by rw [hsl b' q1 q2] at q3; cases q3
      fresh := fun b' l' q1 q2 _ q3 => by rw [hsl b' q1 q2] at q3; cases q3
      one := fun b' b2 l' l2 q1 q2 _ _ _ _ _ q3 => by rw [hsl b' q1 q2] at q3; cases q3
      rwn := by
        intro b' k' hk' _
        simp only [List.mem_singleton, Prod.mk.injEq] at hk'
        rw [hk'.2]; rfl
      upr := by
        intro b' k' hk'
        simp only [List.mem_singleton, Prod.mk.injEq] at hk'
        obtain ⟨rfl, rfl⟩ := hk'
        exact .inr hbrw }
  rcases find_key h3 hall hlen with ⟨hc, hf'⟩ | ⟨j, e, hkj, hej, hc, hf', hek⟩
  · have hfk := MapKept.run_findKey (P := P) (w := w) hud hf'
    have hnm : n ∉ ks := by
      intro hm
      have : ks.contains n = true := by simpa using hm
      rw [hc] at this; cases this
    refine fin (es.push { key := keyV ka n, val := u, born := clock }) (clock + 1) ?_ ?_
    · have ha : addKey ks n = ks ++ [n] := by simp only [addKey, hc, cond_false]
      rw [ha]
      refine ⟨by simp [h3.keys], ?_, ?_, ?_⟩
      · intro k hk
        rcases List.mem_append.1 hk with hk | hk
        · exact h3.len k hk
        · simp only [List.mem_singleton] at hk; subst hk; exact hlen
      · rw [List.nodup_append]
        exact ⟨h3.nodup, by simp, by rintro a hin b hb rfl; simp only [List.mem_singleton] at hb; subst hb; exact hnm hin⟩
      · have hsz : ks.length = es.toList.length := by have := congrArg List.length h3.keys; simpa using this.symm
        intro i k e' hi he
        simp only [Array.toList_push] at he
        rcases Nat.lt_or_ge i ks.length with hlt | hge
        · rw [List.getElem?_append_left hlt] at hi
          rw [List.getElem?_append_left (by omega)] at he
          have hne : (k == n) = false := by
            rw [beq_eq_false_iff_ne]; rintro rfl; exact hnm (List.mem_of_getElem? hi)
          simp only [updK, hne, cond_false]
          exact h3.vals i k e' hi he
        · rw [List.getElem?_append_right hge] at hi
          rw [List.getElem?_append_right (by omega)] at he
          have : i - ks.length = 0 := by
            rcases Nat.eq_zero_or_pos (i - ks.length) with h | h
            · exact h
            · rw [List.getElem?_eq_none (by simp; omega)] at hi; cases hi
          rw [this] at hi
          rw [show i - es.toList.length = 0 from by omega] at he
          simp only [List.getElem?_cons_zero, Option.some.injEq] at hi he
          subst hi; subst he
          simpa [updK] using hu
    · simp [Instr.mapUpdate, run_underlying hum, hg, hck, hfk, hst, Result.andThen]
  · have hfk := MapKept.run_findKey (P := P) (w := w) hud hf'
    have ha : addKey ks n = ks := by simp only [addKey, hc, cond_true]
    have hkeep : Instr.keyThatStays (((es[j]?).map (·.key)).getD (keyV ka n)) (keyV ka n) = (pure (keyV ka n) : Sem Value) := by
      have : es[j]? = some e := by rw [← Array.getElem?_toList]; exact hej
      simp only [this, Option.map_some, Option.getD_some, hek, Instr.keyThatStays, sameBits_key, if_true]
    refine fin (es.modify j fun e => { e with key := keyV ka n, val := u }) clock ?_ ?_
    · rw [ha]
      have hget : ∀ i, (es.modify j fun e => { e with key := keyV ka n, val := u }).toList[i]? = if j = i then (es.toList[i]?).map (fun e => { e with key := keyV ka n, val := u }) else es.toList[i]? := by
        intro i
        rw [Array.toList_modify, List.getElem?_modify]
        by_cases h : j = i
        · simp [h]
        · simp [h]
      refine ⟨?_, h3.len, h3.nodup, ?_⟩
      · rw [← h3.keys]
        apply List.ext_getElem?
        intro i
        rw [List.getElem?_map, List.getElem?_map, hget]
        by_cases h : j = i
        · subst h; simp [hej, hek]
        · simp [h]
      · intro i k e' hi he
        rw [hget] at he
        by_cases h : j = i
        · subst h
          rw [hkj] at hi
          simp only [Option.some.injEq] at hi
          subst hi
          simp only [if_true, hej, Option.map_some, Option.some.injEq] at he
          subst he
          simpa [updK] using hu
        · simp only [if_neg h] at he
          have hne : (k == n) = false := by
            rw [beq_eq_false_iff_ne]
            rintro rfl
            obtain ⟨q1, e1⟩ := List.getElem?_eq_some_iff.1 hi
            obtain ⟨q2, e2⟩ := List.getElem?_eq_some_iff.1 hkj
            have hp := List.pairwise_iff_getElem.1 h3.nodup
            rcases Nat.lt_trichotomy j i with hlt' | he' | hlt'
            · exact hp j i q2 q1 hlt' (e2.trans e1.symm)
            · exact h he'
            · exact hp i j q1 q2 hlt' (e1.trans e2.symm)
          simp only [updK, hne, cond_false]
          exact h3.vals i k e' hi he
    · simp [Instr.mapUpdate, run_underlying hum, hg, hck, hfk, hkeep, hst, Result.andThen]

end Go.Vx

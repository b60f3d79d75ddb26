/- Lemmas of a small executor for the model, and contracts of functions, used for the law that this claim proves. No condition. -/
import Derived.Test.YtpohlkhnilcfnaaDVx5
set_option linter.unusedSimpArgs false
set_option linter.unusedVariables false
namespace Go.Vx
variable {P : Program}
section
variable {ι : Lay} {bs : Nat → Blk} {f f' : Nat} {w : World}

theorem op_append (hf : ∀ b, f ≤ b → b < f' → ι b = none ∧ bs b = .gone) (hff : f < f') (hb : ∀ b, BR ι w b (bs b)) (hlt : ∀ b l, ι b = some l → l.g < w.heap.size) {te : TyD} {tid : TypeId} (hte : tkOf P tid = some te) {t : TypeId} (ht : P.underlying t = some (.slice tid))
    {s x : AV} {cs cx : Value} (hs : rel ι s cs) (hx : rel ι x cx) {p : List Prop} {v : AV} {up : List (Nat × Blk)} (h : aAppend te s x bs f = some (p, v, up)) (hp : holdsL p) (ty : TypeId) :
    Post ι bs f f' w ((do pure (.value (← Builtin.append_ #[t, t] ty #[cs, cx])) : Sem Next).run P w) v up := by
  obtain ⟨i, u, z, hi, hu, hz, e1, e2, e3, _⟩ := tk_info hte
  have htid : te.t = tid := tk_t hte
  subst htid
  unfold aAppend at h
  cases hsrc : srcOf te.sz x bs with
  | none => simp [hsrc] at h
  | some q =>
  obtain ⟨ps, n, c⟩ := q
  simp only [hsrc] at h
  cases hg : Nat.beq te.sz 0 || Nat.beq te.bytes 0 || !Nat.beq te.zero.length te.sz with
  | true => simp [hg] at h
  | false =>
  simp only [hg, cond_false] at h
  simp only [Bool.or_eq_false_iff, Bool.not_eq_false'] at hg
  obtain ⟨⟨g1, g2⟩, g3⟩ := hg
  have hsz : 0 < te.sz := Nat.pos_of_ne_zero fun e => by rw [e] at g1; cases g1
  have hby : 0 < te.bytes := Nat.pos_of_ne_zero fun e => by rw [e] at g2; cases g2
  have hzz : te.zero.length = te.sz := Nat.eq_of_beq_eq_true g3
  split at h
  · -- onto nil
    simp only [Option.some.injEq, Prod.mk.injEq] at h
    obtain ⟨rfl, rfl, rfl⟩ := h
    obtain ⟨hbytes, hps⟩ := hp
    obtain ⟨A, k, news, rfl, hS⟩ := src_ok hx hb hsrc hps
    simp only [rel] at hs
    subst hs
    obtain ⟨v', hpost, rfl⟩ := app_new (P := P) (ι := ι) (bs := bs) (w := w) hf hff hte ht hzz hby none 0 0 [] (by simp) (fun h => absurd h (by omega)) (fun ad h => by cases h) (by simp) (c0 := fun _ _ => .dead)
      (fun i hi => absurd hi (by omega)) (kc := k) hS (Nat.le_refl _) (.inr rfl) (by simpa using hbytes) ty
    simp only [Nat.zero_add] at hpost
    obtain ⟨c', w', ι', h1, h2, h3⟩ := hpost
    refine ⟨c', w', ι', h1, h2, { h3 with br := ?_, keep := ?_, fresh := ?_, one := ?_, rwn := ?_, upr := ?_ }⟩
    · rintro b ⟨k', hk'⟩
      simp only [List.mem_singleton, Prod.mk.injEq] at hk'
      obtain ⟨rfl, rfl⟩ := hk'
      have := h3.br b ⟨_, List.mem_singleton.2 rfl⟩
      rw [updL_cons_same] at this ⊢
      rcases this with ⟨q1, q2⟩ | ⟨l, q1, q2, q3, q4⟩
      · exact .inl ⟨q1, q2⟩
      · refine .inr ⟨l, q1, q2, fun i hi j hj => ?_, q4⟩
        obtain ⟨cv, r1, r2, r3⟩ := q3 i hi j hj
        exact ⟨cv, r1, r2, by simpa [appF_ge (Nat.zero_le i)] using r3⟩
    · intro g hgl hk
      refine h3.keep g hgl fun b k' l hm => ?_
      simp only [List.mem_singleton, Prod.mk.injEq] at hm
      exact hk b (.arr true te.t te.sz n c) l (by rw [hm.1]; simp)
    · intro b l q1 q2 q4 q3
      have hbf : b = f := by
        by_cases hbf : b = f
        · exact hbf
        · rw [updL_cons_ne _ _ _ _ hbf] at q4
          simp only [updL] at q4
          rw [(hf b q1 q2).2] at q4; cases q4
      subst hbf
      rcases h3.fresh b l q1 q2 (by rw [updL_cons_same]; rfl) q3 with hh | ⟨b0, l0, hm, _⟩
      · exact .inl hh
      · simp at hm
    · intro b b' l l' q1 q2 q3 q4 hne q5 q6
      by_cases hbf : b = f
      · have : b' ≠ f := by omega
        rw [updL_cons_ne _ _ _ _ this] at q6
        simp only [updL] at q6
        rw [(hf b' q3 q4).2] at q6; cases q6
      · rw [updL_cons_ne _ _ _ _ hbf] at q5
        simp only [updL] at q5
        rw [(hf b q1 q2).2] at q5; cases q5
    · intro b k' hk' _
      simp only [List.mem_singleton, Prod.mk.injEq] at hk'
      rw [hk'.2]; rfl
    · intro b k' hk'
      simp only [List.mem_singleton, Prod.mk.injEq] at hk'
      exact h3.upr b _ (by rw [hk'.1]; exact List.mem_singleton.2 rfl)
  · -- onto a row of the call's own
    rename_i b e off len
    split at h
    · rename_i t' e' m c0 hbb
      cases hq : Nat.beq t' te.t && Nat.beq e' te.sz && Nat.beq e te.sz && Nat.beq off 0 with
      | false => simp [hq] at h
      | true =>
      simp only [hq, cond_true, Option.some.injEq, Prod.mk.injEq] at h
      simp only [Bool.and_eq_true] at hq
      have r0 := Nat.eq_of_beq_eq_true hq.2
      have hq := hq.1
      have r1 := Nat.eq_of_beq_eq_true hq.1.1
      have r2 := Nat.eq_of_beq_eq_true hq.1.2
      have r3 := Nat.eq_of_beq_eq_true hq.2
      subst r0; subst r1; subst r2
      obtain ⟨rfl, rfl, rfl⟩ := h
      obtain ⟨rfl, hbytes, hps⟩ := hp
      obtain ⟨A, kc, news, rfl, hS⟩ := src_ok hx hb hsrc hps
      have hbb' := hb b
      rw [hbb] at hbb'
      simp only [rel] at hs
      obtain ⟨a, k, rfl, hlk, _, h3⟩ := hs
      have hbf : b < f ∨ f' ≤ b := by
        rcases Nat.lt_or_ge b f with h | h
        · exact .inl h
        · rcases Nat.lt_or_ge b (f') with h' | h'
          · have := (hf b h h').2; rw [hbb] at this; cases this
          · exact .inr h'
      obtain ⟨olds, hO⟩ := src_arr (off := 0) (n := m) hbb' (by omega) (a := a) hlk (fun hk => by obtain ⟨l, q1, q2, _⟩ := h3 hk; exact ⟨l, q1, by rw [q2, r3]⟩)
      simp only [Nat.zero_add] at hO
      -- a step that makes a new block lets the old one go as well
      have letgo : ∀ {r : Result Next} {v : AV}, Post ι bs f f' w r v [(f, .arr true te.t te.sz (m + n) (appF m c0 c))] → Post ι bs f f' w r v [(b, .gone), (f, .arr true te.t te.sz (m + n) (appF m c0 c))] := by
        rintro r v ⟨c', w', ι', q1, q2, q3⟩
        refine ⟨c', w', ι', q1, q2, { q3 with br := ?_, keep := ?_, fresh := ?_, one := ?_, rwn := ?_, upr := ?_ }⟩
        · rintro b1 ⟨k1, hk1⟩
          by_cases hb1 : b1 = b
          · subst hb1; rw [updL_cons_same]; trivial
          · rw [updL_cons_ne _ _ _ _ hb1]
            simp only [List.mem_cons, Prod.mk.injEq, List.not_mem_nil, or_false] at hk1
            rcases hk1 with hk1 | hk1
            · exact absurd hk1.1 hb1
            · exact q3.br b1 ⟨k1, by simp [hk1]⟩
        · intro g hgl hk
          exact q3.keep g hgl fun b1 k1 l1 hm => hk b1 k1 l1 (by simp at hm ⊢; exact .inr hm)
        · intro b1 l1 s1 s2 s4 s3
          rw [updL_cons_ne _ _ _ _ (show b1 ≠ b by omega)] at s4
          rcases q3.fresh b1 l1 s1 s2 s4 s3 with hh | ⟨b0, l0, hm, _⟩
          · exact .inl hh
          · simp at hm
        · intro b1 b2 l1 l2 s1 s2 s3 s4 hne s5 s6
          rw [updL_cons_ne _ _ _ _ (show b1 ≠ b by omega)] at s5
          rw [updL_cons_ne _ _ _ _ (show b2 ≠ b by omega)] at s6
          exact q3.one b1 b2 l1 l2 s1 s2 s3 s4 hne s5 s6
        · intro b1 k1 hk1 hlv
          simp only [List.mem_cons, Prod.mk.injEq, List.not_mem_nil, or_false] at hk1
          rcases hk1 with hk1 | hk1
          · rw [hk1.2] at hlv; cases hlv
          · rw [hk1.2]; rfl
        · intro b1 k1 hk1
          simp only [List.mem_cons, Prod.mk.injEq, List.not_mem_nil, or_false] at hk1
          rcases hk1 with hk1 | hk1
          · right; rw [hk1.1, hbb]; rfl
          · exact q3.upr b1 k1 (by simp [hk1])
      by_cases hroom : m + n ≤ k ∧ 0 < k
      · -- in place
        obtain ⟨hroom, hk0⟩ := hroom
        obtain ⟨l, hl, rfl, hcapl⟩ := h3 hk0
        have hcapl := hcapl trivial
        rcases hbb' with ⟨_, q2⟩ | ⟨l', q1, q2, q3, q4⟩
        · rw [q2] at hl; cases hl
        rw [hl] at q1; cases q1
        obtain ⟨ho, hmx, C, hC, hCs⟩ := q4 rfl
        have hdst : (some ⟨l.g, l.o + 0 * e, none⟩ : Option Addr) = some ⟨l.g, 0, none⟩ := by rw [ho]; simp
        -- what the appended cells are, also where nothing is appended
        have hrun : (Builtin.append_ #[t, t] ty #[.slice (some ⟨l.g, 0, none⟩) m k, .slice A n kc]).run P w =
            .ok (.slice (some ⟨l.g, 0, none⟩) (m + n) k) (w.setRow l.g (C.toList.take (m * i.size) ++ news ++ C.toList.drop (m * i.size + news.length)).toArray) := by
          have hfit : m * i.size + news.length ≤ C.size := by rw [hS.len, hCs, ← e1, ← Nat.add_mul]; exact Nat.mul_le_mul_right _ (by omega)
          cases A with
          | some ad => exact run_append_room (P := P) w t ty te.t i ht hi l.g m k C hC ad n kc news (by rw [hS.len, e1]) (hS.cell ad rfl) hS.one hroom hfit
          | none =>
            have hn0 : n = 0 := by
              rcases Nat.eq_zero_or_pos n with h | h
              · exact h
              · obtain ⟨ad, h⟩ := hS.at_ h; cases h
            subst hn0
            have hne : news = [] := List.eq_nil_of_length_eq_zero (by simpa using hS.len)
            subst hne
            have hsame : (C.toList.take (m * i.size) ++ [] ++ C.toList.drop (m * i.size + ([] : List Value).length)).toArray = C := by simp
            rw [hsame, setRow_self w l.g C te.t (0, 0) hC]
            simp [Builtin.append_, run_underlying ht, sizeOf, typeInfo, hi, Builtin.lenOf, Builtin.firstCells, hlk, storeCells]
        rw [hdst]
        let ι' : Lay := fun y => if y = f then some ⟨l.g, 0, k⟩ else ι y
        have hself : ι' f = some ⟨l.g, 0, k⟩ := by simp [ι']
        have hoth : ∀ y, y ≠ f → ι' y = ι y := fun y hy => by simp [ι', hy]
        have hext : Ext ι ι' := fun b1 l1 hl1 => by
          by_cases hb1 : b1 = f
          · subst hb1; have := (hf b1 (by omega) (by omega)).1; rw [this] at hl1; cases hl1
          · rw [hoth b1 hb1]; exact hl1
        have hbne : b ≠ f := by omega
        have hOn : ∀ i', i' < m → ∀ j, j < te.sz → ∃ u, (C.toList.take (m * i.size))[i' * te.sz + j]? = some u ∧ rel ι' (c0 i' j) u := by
          intro i' hi' j hj
          obtain ⟨cv, s1, s2, s3⟩ := q3 i' hi' j hj
          rw [cell_of_row w l.g _ C te.t (0, 0) hC, ho, Nat.zero_add] at s1
          refine ⟨cv, ?_, rel_ext hext _ _ s3⟩
          have : (i' + 1) * te.sz ≤ m * te.sz := Nat.mul_le_mul_right _ hi'
          rw [Nat.add_mul] at this
          rw [List.getElem?_take_of_lt (by rw [← e1]; omega)]
          simpa using s1
        have holen : (C.toList.take (m * i.size)).length = m * te.sz := by
          rw [List.length_take, Array.length_toList, hCs, ← e1]
          exact Nat.min_eq_left (Nat.mul_le_mul_right _ (by omega))
        refine ⟨_, _, ι', .inl (by simp only [Sem.run_bind, hrun, Result.andThen_ok, Sem.run_pure]; rfl), ?_, ?_⟩
        · simp only [rel]
          exact ⟨_, k, rfl, hroom, (fun m h => by cases h), (fun _ => ⟨_, hself, by simp, fun _ => by simp⟩)⟩
        · exact {
            ext := fun b1 hb1 => hoth b1 (by omega)
            br := by
              rintro b1 ⟨k1, hk1⟩
              by_cases hb1 : b1 = b
              · subst hb1; rw [updL_cons_same]; trivial
              · rw [updL_cons_ne _ _ _ _ hb1]
                simp only [List.mem_cons, Prod.mk.injEq, List.not_mem_nil, or_false] at hk1
                rcases hk1 with hk1 | hk1
                · exact absurd hk1.1 hb1
                · rw [hk1.1, updL_cons_same]
                  refine br_app (olds := C.toList.take (m * i.size)) (news := news) (rest := C.toList.drop (m * i.size + news.length)) hself (setRow_heap w l.g C _ te.t (0, 0) hC) hroom (by omega) ?_ (by simp) holen hS.len
                    (fun u hu => ?_) hS.one hOn (fun i' hi' j hj => by obtain ⟨u, s1, s2⟩ := hS.rel i' hi' j hj; exact ⟨u, s1, rel_ext hext _ _ s2⟩)
                  · have hfit : m * i.size + news.length ≤ C.size := by rw [hS.len, hCs, ← e1, ← Nat.add_mul]; exact Nat.mul_le_mul_right _ (by omega)
                    simp only [List.size_toArray, List.length_append, List.length_drop, Array.length_toList, holen]
                    rw [← e1] at hfit ⊢
                    rw [hCs] at hfit ⊢
                    have : l.n = k := by omega
                    rw [this] at hfit ⊢
                    omega
                  · obtain ⟨q, hq⟩ := List.mem_iff_getElem?.1 hu
                    have hql : q < m * te.sz := by rw [← holen]; exact (List.getElem?_eq_some_iff.1 hq).1
                    have h4 : q / te.sz < m := (Nat.div_lt_iff_lt_mul hsz).2 hql
                    obtain ⟨cv, s1, s2, _⟩ := q3 (q / te.sz) h4 (q % te.sz) (Nat.mod_lt _ hsz)
                    rw [cell_of_row w l.g _ C te.t (0, 0) hC, ho, Nat.zero_add, Nat.mul_comm, Nat.div_add_mod] at s1
                    rw [List.getElem?_take_of_lt (by rw [← e1]; exact hql)] at hq
                    have : C[q]? = some u := by simpa using hq
                    rw [this] at s1; cases s1; exact s2
            os := rfl
            tape := rfl
            output := rfl
            size := by simp [World.setRow]
            keep := fun g _ hk => setRow_other w l.g g _ (fun e => hk b .gone l (by simp) (by rw [hbb]; rfl) hl e.symm)
            lt := fun b1 l1 s1 s2 s3 => by
              by_cases hb1 : b1 = f
              · subst hb1; rw [hself] at s3; cases s3; simp [World.setRow]; exact hlt b l hl
              · rw [hoth b1 hb1, (hf b1 s1 s2).1] at s3; cases s3
            rwn := by
              intro b1 k1 hk1 hlv
              simp only [List.mem_cons, Prod.mk.injEq, List.not_mem_nil, or_false] at hk1
              rcases hk1 with hk1 | hk1
              · rw [hk1.2] at hlv; cases hlv
              · rw [hk1.2]; rfl
            fresh := fun b1 l1 s1 s2 _ s3 => by
              by_cases hb1 : b1 = f
              · subst hb1; rw [hself] at s3; cases s3
                exact .inr ⟨b, l, by simp, updL_cons_same _ _ _ _, by rw [hbb]; rfl, hl, rfl⟩
              · rw [hoth b1 hb1, (hf b1 s1 s2).1] at s3; cases s3
            one := fun b1 b2 l1 l2 s1 s2 s3 s4 hne _ _ s5 s6 => by
              by_cases hb1 : b1 = f
              · rw [hoth b2 (by omega), (hf b2 s3 s4).1] at s6; cases s6
              · rw [hoth b1 hb1, (hf b1 s1 s2).1] at s5; cases s5
            upr := by
              intro b1 k1 hk1
              simp only [List.mem_cons, Prod.mk.injEq, List.not_mem_nil, or_false] at hk1
              rcases hk1 with hk1 | hk1
              · right; rw [hk1.1, hbb]; rfl
              · exact .inl (by omega) }
      · obtain ⟨v', hpost, rfl⟩ := app_new (P := P) (ι := ι) (bs := bs) (w := w) hf hff hte ht hzz hby a m k olds hO.len hO.at_ hO.cell hO.one hO.rel (kc := kc) hS hlk (by omega) hbytes ty
        exact letgo hpost
    · cases h
  · -- onto a slice of a known capacity
    rename_i b e off len cp
    split at h
    · rename_i rw' t' e' m c0 hbb
      cases hq : Nat.beq e' te.sz && Nat.beq e te.sz with
      | false => simp [hq] at h
      | true =>
      simp only [hq, cond_true, Option.some.injEq, Prod.mk.injEq] at h
      simp only [Bool.and_eq_true] at hq
      have r2 := Nat.eq_of_beq_eq_true hq.1
      have r3 := Nat.eq_of_beq_eq_true hq.2
      subst r2
      obtain ⟨rfl, rfl, rfl⟩ := h
      obtain ⟨hm, hcp, hbytes, hps⟩ := hp
      obtain ⟨A, kc, news, rfl, hS⟩ := src_ok hx hb hsrc hps
      have hbb' := hb b
      rw [hbb] at hbb'
      simp only [rel] at hs
      obtain ⟨a, k, rfl, hlk, hkc, h3⟩ := hs
      have hk := hkc cp rfl
      subst hk
      obtain ⟨olds, hO⟩ := src_arr (off := off) (n := len) hbb' hm (a := a) hlk (fun hk => by obtain ⟨l, q1, q2, _⟩ := h3 hk; exact ⟨l, q1, by rw [q2, r3]⟩)
      obtain ⟨v', hpost, rfl⟩ := app_new (P := P) (ι := ι) (bs := bs) (w := w) hf hff hte ht hzz hby a len k olds hO.len hO.at_ hO.cell hO.one hO.rel (kc := kc) hS hlk hcp hbytes ty
      exact hpost
    · cases h
  · cases h

end
end Go.Vx

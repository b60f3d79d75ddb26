/- Lemmas of a small executor for the model, and contracts of functions, used for the law that this claim proves. No condition. -/
import Derived.Test.YteefcjenckgaaaaM2
set_option linter.unusedSimpArgs false
set_option linter.unusedVariables false
set_option maxRecDepth 100000
namespace Go.Vx.L28
open Go Go.Proofs
def best2 (g : Int → Rec) (o k : Int) : Int := if (g k).last < (g o).last ∨ (g k).last = (g o).last ∧ k < o then k else o
/-- The client that is forgotten. -/
def old (g : Int → Rec) : List Int → Int
  | [] => 0
  | k :: r => r.foldl (best2 g) k
theorem old_app (g : Int → Rec) (l : List Int) (k : Int) (h : l ≠ []) : old g (l ++ [k]) = best2 g (old g l) k := by
  cases l with
  | nil => exact absurd rfl h
  | cons a r => simp [old, List.foldl_append]
def IsOld (g : Int → Rec) (l : List Int) (o : Int) : Prop := o ∈ l ∧ ∀ k ∈ l, (g o).last < (g k).last ∨ (g o).last = (g k).last ∧ o ≤ k
theorem old_is (g : Int → Rec) (l : List Int) (h : l ≠ []) : IsOld g l (old g l) := by
  cases l with
  | nil => exact absurd rfl h
  | cons a r =>
    have key : ∀ (r l : List Int) (o : Int), IsOld g l o → IsOld g (l ++ r) (r.foldl (best2 g) o) := by
      intro r
      induction r with
      | nil => intro l o h; simpa using h
      | cons b r ih =>
        intro l o ⟨h1, h2⟩
        have := ih (l ++ [b]) (best2 g o b) ⟨?_, ?_⟩
        · simpa using this
        · unfold best2; split <;> simp [h1]
        · intro k hk
          unfold best2
          rcases List.mem_append.1 hk with hk | hk
          · have := h2 k hk
            split <;> omega
          · simp only [List.mem_singleton] at hk; subst hk
            split <;> omega
    exact key r [a] a ⟨by simp, fun k hk => by simp at hk; subst hk; exact .inr ⟨rfl, Int.le_refl _⟩⟩
theorem old_uniq {g : Int → Rec} {l l' : List Int} {o o' : Int} (h : IsOld g l o) (h' : IsOld g l' o') (hm : ∀ k, k ∈ l ↔ k ∈ l') : o = o' := by
  have := h.2 o' ((hm o').2 h'.1)
  have := h'.2 o ((hm o).1 h.1)
  omega
theorem kz_mem {l : List Int} {n : Int} : [n] ∈ kz l ↔ n ∈ l := by simp
theorem kz_contains (l : List Int) (n : Int) : (kz l).contains [n] = l.contains n := by
  rw [Bool.eq_iff_iff]; simp
theorem kz_erase : ∀ (l : List Int) (n : Int), (kz l).erase [n] = kz (l.erase n)
  | [], n => rfl
  | a :: r, n => by
    have := kz_erase r n
    simp only [List.map_cons, List.erase_cons] at this ⊢
    by_cases h : a = n
    · subst h; simp
    · simp [h, this]
theorem kz_get {l : List Int} {k : List Int} (h : k ∈ kz l) : ∃ n, k = [n] ∧ n ∈ l := by
  obtain ⟨n, hn, rfl⟩ := List.mem_map.1 h
  exact ⟨n, rfl, hn⟩
theorem kz_all {l : List Int} {S : List (List Int)} {Y : List Int → Prop} (h : ∀ n, n ∈ l → [n] ∉ S → Y [n]) : ∀ k, k ∈ kz l → k ∉ S → Y k := fun k hk hS => by
  obtain ⟨n, rfl, hn⟩ := kz_get hk
  exact h n hn hS
theorem sub_len : ∀ (l m : List Int), l.Nodup → (∀ k ∈ l, k ∈ m) → l.length ≤ m.length
  | [], m, _, _ => by simp
  | a :: r, m, h, hs => by
    simp only [List.nodup_cons] at h
    have ha := hs a (by simp)
    have := sub_len r (m.erase a) h.2 fun k hk => by
      have : k ≠ a := fun e => h.1 (e ▸ hk)
      exact (List.mem_erase_of_ne this).2 (hs k (by simp [hk]))
    rw [List.length_erase_of_mem ha] at this
    have : 0 < m.length := List.length_pos_of_mem ha
    simp only [List.length_cons]; omega
def updG (g : Int → Rec) (n : Int) (r : Rec) : Int → Rec := fun k => if k = n then r else g k
set_option maxHeartbeats 2000000 in
theorem forget_ok (c : Cf) (s : PS) : Runs Try.prog 30 [.ptr 0 7 0 0] [memB c s, mapB s] (Det (.tup []) [memB c s, mapB { s with ks := s.ks.erase (old s.g s.ks) }]) := by
  refine Runs.mk tabOK Try.call30 Try.func30 rfl Try.ntmps30 Try.results30 rfl ?_
  (repeat' (first
    | (intro Q h; refine h ?_; clear h Q)
    | (with_reducible refine bcase_true ?_)
    | (with_reducible refine bcase_false ?_)
    | (refine bcase_mk (fun hb => ?_) (fun hb => ?_) <;> (try simp only [decide_eq_true_eq, decide_eq_false_iff_not, beq_iff_eq, beq_eq_false_iff_ne, bne_iff_ne, bne_eq_false_iff_eq, Bool.not_eq_true', Bool.not_eq_false', Bool.and_eq_true, Bool.or_eq_true, ne_eq, Int.not_lt, Int.not_le, eq_self, not_true_eq_false, not_false_eq_true, reduceCtorEq, Bool.and_true, Bool.true_and, beq_self_eq_true, bne_self_eq_false, Bool.false_eq_true, Bool.and_false, Bool.not_true, Bool.not_false] at hb))
    | refine rng_mk (fun es clock => ?_)
    | refine nxt_mk rfl rfl rfl (fun hend => ?_) (kz_all (fun n hn hkS => ?_))
    | refine ent_mk rfl rfl rfl ?_
    | refine nil_mk (fun hz => ?_) ?_
    | refine draw_mk (by decide +kernel) ?_
    | refine seq_go ?_
    | refine And.intro (by first | omega | ((try simp only [IntKind.wrap_i64, List.length_append, List.length_cons, List.length_nil, List.length_take, List.length_map, Int.toNat_natCast]); omega) | rfl | decide) ?_
    | omega))
  refine loop_inv (σ := List Int) (fun x => x.Nodup ∧ (∀ k ∈ x, k ∈ s.ks) ∧ x.length ≤ s.ks.length) (fun x => ⟨[(0, .ptr 0 7 0 0), (2, .val (.int .i64 (old s.g x))), (3, .sb (!x.isEmpty)), (11, .ptr 2 1 0 0)], [memB c s, .mapg none (kz s.ks) (fun k => recA (s.g (k.headD 0))) es clock, .iter 1 none es clock (kz x) none]⟩) (fun x => s.ks.length - x.length) ([]) ?_ ?_ ?_
  · simp
  · (apply le_mk [some 0, some 1, some 2]; (focus (iterate 2 (all_goals (repeat' (first | exact sub_dead | exact mapa_same recA_flat rfl (fun _ _ => rfl) | exact mapa_ren recA_flat rfl (fun _ _ => rfl) | exact mapa_of recA_flat rfl (fun _ _ => rfl) | exact mapga_same recA_flat | exact iter_same rfl rfl | refine iter_same rfl ?_ | exact sub_map rfl | exact map_same rfl | exact map_updc rfl | refine map_updc ?_ | refine map_same ?_ | refine map_mk ?_ ?_ | exact subL_nil | exact trivial | (intro Q h; refine h ?_; clear h Q) | refine And.intro ?_ ?_ | refine subL_cons ?_ ?_ | refine sub_agg ?_ | refine sub_tup ?_ | refine sub_fn ?_ | refine var_mk ?_ | refine rd_var ?_ rfl | refine rd_rd ?_ | exact sub_ptr rfl rfl | exact sub_sl rfl rfl rfl | exact sub_refl_val _ _ | (refine sub_int ?_; first | with_reducible rfl | omega | ((try simp only [IntKind.wrap_i64, List.length_append, List.length_cons, List.length_nil, List.length_take, List.length_map, Int.toNat_natCast]); omega) | rfl) | exact sub_sb rfl | exact sub_sbl rfl | exact row_same rfl rfl rfl | exact row_ren rfl rfl rfl | (refine sub_sl rfl rfl ?_; first | with_reducible rfl | omega | ((try simp only [IntKind.wrap_i64, List.length_append, List.length_cons, List.length_nil, List.length_take, List.length_map, Int.toNat_natCast]); omega) | rfl) | exact sub_nil rfl | (refine sub_nil ?_; first | with_reducible rfl | omega | ((try simp only [IntKind.wrap_i64, List.length_append, List.length_cons, List.length_nil, List.length_take, List.length_map, Int.toNat_natCast]); omega) | rfl) | (refine virt_mk ?_; first | with_reducible rfl | omega | ((try simp only [IntKind.wrap_i64, List.length_append, List.length_cons, List.length_nil, List.length_take, List.length_map, Int.toNat_natCast]); omega) | rfl) | apply row_app1 | apply row_app2 | apply row_app1r | refine cells_succ ?_ ?_ | exact cell0 | with_reducible rfl | (refine And.left (b := True) ⟨?_, True.intro⟩; assumption) | (show (_ : Nat) = _; first | with_reducible rfl | omega | ((try simp only [IntKind.wrap_i64, List.length_append, List.length_cons, List.length_nil, List.length_take, List.length_map, Int.toNat_natCast]); omega) | rfl) | refine sub_int ?_ | refine sub_sb ?_ | refine sub_sbl ?_ | refine sub_sl rfl rfl ?_ | (apply row_lit rfl; (focus (refine cells_succ ?_ ?_))) | refine row_same rfl ?_ ?_ | refine row_ren rfl ?_ ?_))))); (any_goals (apply okIx_mk; rfl)))
  rintro V ⟨hV1, hV2, hV3⟩
  have hold : V ≠ [] → old s.g V ∈ V := fun h => (old_is s.g V h).1
  have hinv : ∀ n, n ∈ s.ks → [n] ∉ kz V → (V ++ [n]).Nodup ∧ (∀ k ∈ V ++ [n], k ∈ s.ks) ∧ (V ++ [n]).length ≤ s.ks.length := by
    intro n h1 h2
    have h2' : n ∉ V := fun h => h2 (kz_mem.2 h)
    have h3 : (V ++ [n]).Nodup := by
      rw [List.nodup_append]; exact ⟨hV1, by simp, by rintro a ha b hb rfl; simp only [List.mem_singleton] at hb; subst hb; exact h2' ha⟩
    have h4 : ∀ k ∈ V ++ [n], k ∈ s.ks := fun k hk => by
      rcases List.mem_append.1 hk with hk | hk
      · exact hV2 k hk
      · simp only [List.mem_singleton] at hk; subst hk; exact h1
    exact ⟨h3, h4, sub_len _ _ h3 h4⟩
  have hfin : (∀ k ∈ kz s.ks, k ∈ kz V) → old s.g V = old s.g s.ks := by
    intro h
    by_cases hn : s.ks = []
    · have : V = [] := List.eq_nil_of_length_eq_zero (by rw [hn] at hV3; simpa using hV3)
      rw [hn, this]
    · have hVn : V ≠ [] := by
        rintro rfl
        obtain ⟨a, ha⟩ := List.exists_mem_of_ne_nil _ hn
        have := h [a] (kz_mem.2 ha)
        simp at this
      exact old_uniq (old_is s.g V hVn) (old_is s.g s.ks hn) fun k => ⟨hV2 k, fun hk => kz_mem.1 (h [k] (kz_mem.2 hk))⟩
  (repeat' (first
    | (intro Q h; refine h ?_; clear h Q)
    | (with_reducible refine bcase_true ?_)
    | (with_reducible refine bcase_false ?_)
    | (refine bcase_mk (fun hb => ?_) (fun hb => ?_) <;> (try simp only [decide_eq_true_eq, decide_eq_false_iff_not, beq_iff_eq, beq_eq_false_iff_ne, bne_iff_ne, bne_eq_false_iff_eq, Bool.not_eq_true', Bool.not_eq_false', Bool.and_eq_true, Bool.or_eq_true, ne_eq, Int.not_lt, Int.not_le, eq_self, not_true_eq_false, not_false_eq_true, reduceCtorEq, Bool.and_true, Bool.true_and, beq_self_eq_true, bne_self_eq_false, Bool.false_eq_true, Bool.and_false, Bool.not_true, Bool.not_false] at hb))
    | refine rng_mk (fun es clock => ?_)
    | refine nxt_mk rfl rfl rfl (fun hend => ?_) (kz_all (fun n hn hkS => ?_))
    | refine ent_mk rfl rfl rfl ?_
    | refine nil_mk (fun hz => ?_) ?_
    | refine draw_mk (by decide +kernel) ?_
    | refine seq_go ?_
    | refine And.intro (by first | omega | ((try simp only [IntKind.wrap_i64, List.length_append, List.length_cons, List.length_nil, List.length_take, List.length_map, Int.toNat_natCast]); omega) | rfl | decide) ?_
    | (apply ret_mk [some 0, some 1]; (focus (iterate 2 (all_goals (repeat' (first | exact sub_dead | exact mapa_same recA_flat rfl (fun _ _ => rfl) | exact mapa_ren recA_flat rfl (fun _ _ => rfl) | exact mapa_of recA_flat rfl (fun _ _ => rfl) | exact mapga_same recA_flat | exact iter_same rfl rfl | refine iter_same rfl ?_ | exact sub_map rfl | exact map_same rfl | exact map_updc rfl | refine map_updc ?_ | refine map_same ?_ | refine map_mk ?_ ?_ | exact subL_nil | exact trivial | (intro Q h; refine h ?_; clear h Q) | refine And.intro ?_ ?_ | refine subL_cons ?_ ?_ | refine sub_agg ?_ | refine sub_tup ?_ | refine sub_fn ?_ | refine var_mk ?_ | refine rd_var ?_ rfl | refine rd_rd ?_ | exact sub_ptr rfl rfl | exact sub_sl rfl rfl rfl | exact sub_refl_val _ _ | (refine sub_int ?_; first | with_reducible rfl | omega | ((try simp only [IntKind.wrap_i64, List.length_append, List.length_cons, List.length_nil, List.length_take, List.length_map, Int.toNat_natCast]); omega) | rfl) | exact sub_sb rfl | exact sub_sbl rfl | exact row_same rfl rfl rfl | exact row_ren rfl rfl rfl | (refine sub_sl rfl rfl ?_; first | with_reducible rfl | omega | ((try simp only [IntKind.wrap_i64, List.length_append, List.length_cons, List.length_nil, List.length_take, List.length_map, Int.toNat_natCast]); omega) | rfl) | exact sub_nil rfl | (refine sub_nil ?_; first | with_reducible rfl | omega | ((try simp only [IntKind.wrap_i64, List.length_append, List.length_cons, List.length_nil, List.length_take, List.length_map, Int.toNat_natCast]); omega) | rfl) | (refine virt_mk ?_; first | with_reducible rfl | omega | ((try simp only [IntKind.wrap_i64, List.length_append, List.length_cons, List.length_nil, List.length_take, List.length_map, Int.toNat_natCast]); omega) | rfl) | apply row_app1 | apply row_app2 | apply row_app1r | refine cells_succ ?_ ?_ | exact cell0 | with_reducible rfl | (refine And.left (b := True) ⟨?_, True.intro⟩; assumption) | (show (_ : Nat) = _; first | with_reducible rfl | omega | ((try simp only [IntKind.wrap_i64, List.length_append, List.length_cons, List.length_nil, List.length_take, List.length_map, Int.toNat_natCast]); omega) | rfl) | refine sub_int ?_ | refine sub_sb ?_ | refine sub_sbl ?_ | refine sub_sl rfl rfl ?_ | (apply row_lit rfl; (focus (refine cells_succ ?_ ?_))) | refine row_same rfl ?_ ?_ | refine row_ren rfl ?_ ?_))))); (any_goals (apply okIx_mk; rfl)))
    | (apply next_sub (Subtype.mk (V ++ [n]) _); (focus (apply le_mk [some 0, some 1, some 2]; (focus (iterate 2 (all_goals (repeat' (first | exact sub_dead | exact mapa_same recA_flat rfl (fun _ _ => rfl) | exact mapa_ren recA_flat rfl (fun _ _ => rfl) | exact mapa_of recA_flat rfl (fun _ _ => rfl) | exact mapga_same recA_flat | exact iter_same rfl rfl | refine iter_same rfl ?_ | exact sub_map rfl | exact map_same rfl | exact map_updc rfl | refine map_updc ?_ | refine map_same ?_ | refine map_mk ?_ ?_ | exact subL_nil | exact trivial | (intro Q h; refine h ?_; clear h Q) | refine And.intro ?_ ?_ | refine subL_cons ?_ ?_ | refine sub_agg ?_ | refine sub_tup ?_ | refine sub_fn ?_ | refine var_mk ?_ | refine rd_var ?_ rfl | refine rd_rd ?_ | exact sub_ptr rfl rfl | exact sub_sl rfl rfl rfl | exact sub_refl_val _ _ | (refine sub_int ?_; first | with_reducible rfl | omega | ((try simp only [IntKind.wrap_i64, List.length_append, List.length_cons, List.length_nil, List.length_take, List.length_map, Int.toNat_natCast]); omega) | rfl) | exact sub_sb rfl | exact sub_sbl rfl | exact row_same rfl rfl rfl | exact row_ren rfl rfl rfl | (refine sub_sl rfl rfl ?_; first | with_reducible rfl | omega | ((try simp only [IntKind.wrap_i64, List.length_append, List.length_cons, List.length_nil, List.length_take, List.length_map, Int.toNat_natCast]); omega) | rfl) | exact sub_nil rfl | (refine sub_nil ?_; first | with_reducible rfl | omega | ((try simp only [IntKind.wrap_i64, List.length_append, List.length_cons, List.length_nil, List.length_take, List.length_map, Int.toNat_natCast]); omega) | rfl) | (refine virt_mk ?_; first | with_reducible rfl | omega | ((try simp only [IntKind.wrap_i64, List.length_append, List.length_cons, List.length_nil, List.length_take, List.length_map, Int.toNat_natCast]); omega) | rfl) | apply row_app1 | apply row_app2 | apply row_app1r | refine cells_succ ?_ ?_ | exact cell0 | with_reducible rfl | (refine And.left (b := True) ⟨?_, True.intro⟩; assumption) | (show (_ : Nat) = _; first | with_reducible rfl | omega | ((try simp only [IntKind.wrap_i64, List.length_append, List.length_cons, List.length_nil, List.length_take, List.length_map, Int.toNat_natCast]); omega) | rfl) | refine sub_int ?_ | refine sub_sb ?_ | refine sub_sbl ?_ | refine sub_sl rfl rfl ?_ | (apply row_lit rfl; (focus (refine cells_succ ?_ ?_))) | refine row_same rfl ?_ ?_ | refine row_ren rfl ?_ ?_))))); (any_goals (apply okIx_mk; rfl)))); (all_goals (try (first | omega | (simp only; omega)))))
    | omega))
  all_goals (try dsimp only [List.headD] at *)
  all_goals first
    | exact hinv n hn hkS
    | (rw [kz_erase, hfin hend]; done)
    | exact fun x _ => (recA_flat (g := fun k => s.g (k.headD 0)) x).sub
    | (simp; done)
    | (have h9 : V.isEmpty = false := by assumption
       rw [h9]; simp; done)
    | (have := (hinv n hn hkS).2.2; rw [List.length_append] at this ⊢; simp only [List.length_cons, List.length_nil] at this ⊢; omega)
    | (have hVn : V = [] := by (cases V <;> simp_all)
       subst hVn; rfl)
    | (have hVn : V ≠ [] := by (intro e; subst e; simp_all)
       have hin : (kz s.ks).contains [old s.g V] = true := by (rw [kz_contains]; simpa using hV2 _ (hold hVn))
       first
       | (rw [old_app s.g V n hVn, best2, if_pos (by omega)]; done)
       | (rw [old_app s.g V n hVn, best2, if_neg (by omega)]; done)
       | (exfalso; simp_all; done)
       | (simp_all; done))
    | fail
end Go.Vx.L28

/- Lemmas of a small executor for the model, and contracts of functions, used for the law that this claim proves. No condition. -/
import Derived.Test.YtodbfpjjahpahaaGreatDoorGBA
set_option linter.unusedSimpArgs false
set_option linter.unusedVariables false
set_option maxRecDepth 100000
namespace Go.Vx.L58
open Go Go.Proofs
theorem row_setr {ρ : Nat → Option Nat} {ρ' : Nat → Nat} {α : Type} {cells : α → List AV} [FlatC cells] {d : α} {rw : Bool} {t e n n' i k : Nat} {l l' : List α} {x : α} {vs : List AV} (hl : l' = l.set i x) (hv : subL ρ (cells x) vs) (hi : i < l.length) (hk : k = e) (hn : n = l'.length) (hn' : n' = l.length) :
  BSub ρ (.arr rw t e n (rowF cells d l')) (.arr true t e n' fun i' j' => bif Nat.beq i' i && (Nat.ble 0 j' && Nat.blt j' (0 + k)) then vs.getD (j' - 0) .dead else (rowF cells d l i' j').ren ρ') := by
 have e2 : ∀ i j, (rowF cells d l i j).ren ρ' = rowF cells d l i j := fun i j => ren_row FlatC.flat ρ' d l i j
 simp only [e2]
 exact row_setl hl hv hi hk hn hn'
theorem ckL_all (n : Int) : ∀ (l : List Ed) (seen : List (List Int)), ckL n l seen = 0 → ∀ e ∈ l, (endB n e.a e.pa = true ∧ endB n e.b e.pb = true) ∧ e.a ≠ e.b
 | [], _, _, e, he => by cases he
 | x :: r, seen, h, e, he => by
  unfold ckL at h
  split at h
  ·cases h
  ·rename_i h1
   split at h
   ·cases h
   ·rename_i h2
    split at h
    ·cases h
    ·rcases List.mem_cons.1 he with rfl | he
     ·exact ⟨by simpa using h1, h2⟩
     ·exact ckL_all n r _ h e he
/-- An edge between two of n nodes. -/
def edOK (n : Nat) (e : Ed) : Prop := (0 ≤ e.a ∧ e.a < n) ∧ (0 ≤ e.b ∧ e.b < n) ∧ e.a ≠ e.b
theorem ckC_parts {n : Int} {l : List Ed} (h : ckC n l = 0) : ∃ m : Nat, n = m ∧ (1 ≤ m ∧ m ≤ 24) ∧ l.length ≤ 64 ∧ ∀ e ∈ l, edOK m e := by
 unfold ckC at h
 split at h
 ·cases h
 ·split at h
  ·cases h
  ·refine ⟨n.toNat, by omega, by omega, by omega, fun e he => ?_⟩
   obtain ⟨⟨h1, h2⟩, h3⟩ := ckL_all n l _ h e he
   simp only [endB, decide_eq_true_eq] at h1 h2
   exact ⟨by omega, by omega, h3⟩
theorem srt_mem (l : List Int) (x : Int) : x ∈ srt l ↔ x ∈ l := List.mem_mergeSort
def AdjE (e : Ed) (i : Nat) (y : Int) : Prop := (e.a = i ∧ y = e.b) ∨ (e.b = i ∧ y = e.a)
theorem stN_mem {n : Nat} {rs : List (List Int)} (hr : rs.length = n) {e : Ed} (he : edOK n e) {i : Nat} (hi : i < n) (y : Int) : y ∈ (stN rs e).getD i [] ↔ y ∈ rs.getD i [] ∨ AdjE e i y := by
 obtain ⟨h1, h2, h3⟩ := he
 unfold stN AdjE
 rw [getD_set, getD_set, getD_set]
 have ha : ((e.a.toNat : Nat) : Int) = e.a := by omega
 have hb : ((e.b.toNat : Nat) : Int) = e.b := by omega
 by_cases hib : i = e.b.toNat
 ·rw [if_pos ⟨hib, by simp; omega⟩, if_neg (by omega)]
  subst hib
  simp only [List.mem_append, List.mem_singleton]
  constructor
  ·rintro (h | rfl)
   ·exact .inl h
   ·exact .inr (.inr ⟨by omega, rfl⟩)
  ·rintro (h | ⟨h, _⟩ | ⟨_, rfl⟩)
   ·exact .inl h
   ·omega
   ·exact .inr rfl
 ·rw [if_neg (fun h => hib h.1)]
  by_cases hia : i = e.a.toNat
  ·rw [if_pos ⟨hia, by omega⟩]
   subst hia
   simp only [List.mem_append, List.mem_singleton]
   constructor
   ·rintro (h | rfl)
    ·exact .inl h
    ·exact .inr (.inl ⟨by omega, rfl⟩)
   ·rintro (h | ⟨_, rfl⟩ | ⟨h, _⟩)
    ·exact .inl h
    ·exact .inr rfl
    ·omega
  ·rw [if_neg (fun h => hia h.1)]
   constructor
   ·exact .inl
   ·rintro (h | ⟨h, _⟩ | ⟨h, _⟩)
    ·exact h
    ·omega
    ·omega
theorem nrU_mem {n : Nat} {l : List Ed} (hl : ∀ e ∈ l, edOK n e) {i : Nat} (hi : i < n) (y : Int) : y ∈ (nrU n l).getD i [] ↔ ∃ e ∈ l, AdjE e i y := by
 have gen : ∀ (l : List Ed) (rs : List (List Int)), rs.length = n → (∀ e ∈ l, edOK n e) → (y ∈ (l.foldl stN rs).getD i [] ↔ y ∈ rs.getD i [] ∨ ∃ e ∈ l, AdjE e i y) := by
  intro l
  induction l with
  | nil => intro rs _ _; simp
  | cons e r ih =>
   intro rs hr he
   rw [List.foldl_cons, ih _ (by rw [stN_len, hr]) fun x hx => he x (by simp [hx]), stN_mem hr (he e (by simp)) hi]
   constructor
   ·rintro ((h | h) | ⟨x, hx, h⟩)
    ·exact .inl h
    ·exact .inr ⟨e, by simp, h⟩
    ·exact .inr ⟨x, by simp [hx], h⟩
   ·rintro (h | ⟨x, hx, h⟩)
    ·exact .inl (.inl h)
    ·rcases List.mem_cons.1 hx with rfl | hx
     ·exact .inl (.inr h)
     ·exact .inr ⟨x, hx, h⟩
 unfold nrU
 rw [gen l _ (by simp) hl]
 have : (List.replicate n ([] : List Int)).getD i [] = [] := by
  rw [List.getD_eq_getElem?_getD, List.getElem?_replicate]
  split <;> rfl
 rw [this]
 simp
theorem nrF_len (n : Nat) (l : List Ed) : (nrF n l).length = n := by rw [nrF, List.length_map, nrU_len]
theorem nrF_get (n : Nat) (l : List Ed) (i : Nat) : (nrF n l).getD i [] = srt ((nrU n l).getD i []) := by
 unfold nrF
 by_cases h : i < n
 ·have := nrU_len n l
  rw [List.getD_eq_getElem?_getD, List.getD_eq_getElem?_getD, List.getElem?_map, List.getElem?_eq_getElem (by omega)]; rfl
 ·have := nrU_len n l
  rw [List.getD_eq_getElem?_getD, List.getD_eq_getElem?_getD, List.getElem?_map, List.getElem?_eq_none (by omega)]
  simp [srt]
theorem nrF_mem {n : Nat} {l : List Ed} (hl : ∀ e ∈ l, edOK n e) {i : Nat} (hi : i < n) (y : Int) : y ∈ (nrF n l).getD i [] ↔ ∃ e ∈ l, AdjE e i y := by
 rw [nrF_get, srt_mem, nrU_mem hl hi]
theorem nrF_in {n : Nat} {l : List Ed} (hl : ∀ e ∈ l, edOK n e) : rowsIn n (nrF n l) := fun i x hx => by
 by_cases hi : i < n
 ·obtain ⟨e, he, h⟩ := (nrF_mem hl hi x).1 hx
  obtain ⟨h1, h2, _⟩ := hl e he
  rcases h with ⟨_, rfl⟩ | ⟨_, rfl⟩ <;> omega
 ·have := nrF_len n l
  rw [List.getD_eq_getElem?_getD, List.getElem?_eq_none (by omega)] at hx
  cases hx
theorem nrF_row (n : Nat) (l : List Ed) (hl : l.length ≤ 64) (i : Nat) : ((nrF n l).getD i []).length ≤ 1000 := by
 rw [nrF_get, srt_len]
 have := nrU_row n l i l.length (Nat.le_refl _)
 rw [List.take_length] at this
 omega
/-- The distances from a node. -/
def dsF (n : Nat) (l : List Ed) (a : Nat) : List Int := bfs (nrF n l) 24 0 [(a : Int)] ((List.replicate n (-1)).set a 0)
/-- What Dist answers. -/
def dsA (n : Int) (l : List Ed) (a : Int) : List Int := if hasB n l a = true then dsF n.toNat l a.toNat else []
theorem ngs_rep (n : Nat) : ngs (List.replicate n (-1)) = n := by
 induction n with
 | zero => rfl
 | succ n ih =>
  unfold ngs at *
  rw [List.replicate_succ, List.countP_cons, ih]; rfl
theorem bfs_len {n : Nat} (rs : List (List Int)) (hr : rowsIn n rs) : ∀ (m : Nat) (d : Int) (l D : List Int), 0 ≤ d → D.length = n → (bfs rs m d l D).length = n
 | 0, _, _, D, _, h => h
 | m + 1, d, l, D, hd, h => by
  have hok : LvOK n (ngs D) (lvF rs d l D) := lvs_ok hd hr l _ ⟨h, rfl, fun x hx => by cases hx⟩
  unfold bfs
  split
  ·exact hok.len
  ·exact bfs_len rs hr m (d + 1) _ _ (by omega) hok.len
set_option maxHeartbeats 1000000 in
theorem dist_ok (n : Int) (l : List Ed) (cap : Option Nat) (hl : l.length ≤ maxLen) (a : Int) :
  Runs Tryz.prog 36 [gA n l cap, .val (.int .i64 a)] [gB l] (Det (.sl 1 1 0 (dsA n l a).length none) [gB l, iB true (dsA n l a)]) := by
 have hh := has_ok n l cap hl a
 by_cases hb : hasB n l a = true
 rotate_left
 ·have e : dsA n l a = [] := if_neg hb
  have hb' : hasB n l a = false := by simpa using hb
  rw [e]
  rw [hb'] at hh
  refine Runs.mk tabOK Tryz.call36 Tryz.func36 rfl Tryz.ntmps36 Tryz.results36 rfl ?_
  (repeat' (first
  | (intro Q h; refine h ?_; clear h Q)
  | (refine bcase_mk (fun hb => ?_) (fun hb => ?_) <;> (try simp only [nS, nT, eq_self, reduceCtorEq] at hb))
  | refine seq_go ?_
  | ((first | apply call1 (hh) ); (focus (iterate 2 (all_goals (repeat' (first | exact subL_nil | exact trivial | (intro Q h; refine h ?_; clear h Q) | refine And.intro ?_ ?_ | refine subL_cons ?_ ?_ | refine sub_agg ?_ | exact sub_sl rfl rfl rfl | exact sub_refl_val _ _ | exact row_same rfl rfl rfl ))))); (try (any_goals fail)))
  | (apply ret_mk [some 0, none]; (focus (iterate 2 (all_goals (repeat' (first | exact trivial | (intro Q h; refine h ?_; clear h Q) | refine And.intro ?_ ?_ | exact row_same rfl rfl rfl | exact sub_nil rfl | ((first | refine virt_mk ?_ ); first | with_reducible rfl | omega | ((try simp only [wS]); omega) | rfl) ))))); (any_goals (apply okIx_mk; rfl)))
  ))
 have e : dsA n l a = dsF n.toNat l a.toNat := if_pos hb
 rw [e]
 have hb0 := hb
 rw [hb] at hh
 simp only [hasB, decide_eq_true_eq] at hb
 obtain ⟨hc, ha0, ha1⟩ := hb
 obtain ⟨m, rfl, hm, hl64, hed⟩ := ckC_parts hc
 obtain ⟨a, rfl⟩ := Int.eq_ofNat_of_zero_le ha0
 simp only [Int.toNat_natCast]
 have hnb := neighbors_ok m l cap hm hl64 fun k hk => hed _ (getD_mem l k ed0 hk)
 have hun := unknown_ok m hm.1 (by omega) l cap
 have hin := nrF_in hed
 have hlen := nrF_len m l
 have hrow := nrF_row m l hl64
 have hng := ngs_set (List.replicate m (-1)) a 0 (by simp; omega) (by rw [List.getD_eq_getElem?_getD, List.getElem?_replicate, if_pos (by omega)]; decide) (by decide)
 rw [ngs_rep] at hng
 have hv := visit_ok m hm (nrF m l) hin hlen hrow 24 [(a : Int)] ((List.replicate m (-1)).set a 0) 0 (some 1) (by omega) (by simp) (fun x hx => by simp at hx; subst hx; omega) (by simp) (by decide) (by decide)
 rw [show bfs (nrF m l) 24 0 [(a : Int)] ((List.replicate m (-1)).set a 0) = dsF m l a from rfl] at hv
 have hdl : (dsF m l a).length = m := bfs_len (n := m) _ hin _ _ _ _ (Int.le_refl _) (by simp)
 have hrl : (List.replicate m (-1 : Int)).length = m := by simp
 generalize List.replicate m (-1 : Int) = Z at *
 generalize dsF m l a = D at *
 generalize nrF m l = R at *
 rw [show Z.set a 0 = Z.set (0 + Int.toNat (a : Int)) 0 by simp] at hv
 refine Runs.mk tabOK Tryz.call36 Tryz.func36 rfl Tryz.ntmps36 Tryz.results36 rfl ?_
 (repeat' (first
  | (intro Q h; refine h ?_; clear h Q)
  | (refine bcase_mk (fun hb => ?_) (fun hb => ?_) <;> (try simp only [nS, nT, eq_self, reduceCtorEq] at hb))
  | refine draw_mk (by decide +kernel) ?_
  | refine seq_go ?_
  | refine And.intro (by first | omega | ((try simp only [wS]); omega) | rfl | decide) ?_
  | ((first | apply call1 (hh) ); (focus ((iterate 2 (all_goals (repeat' (first | exact subL_nil | exact trivial | (intro Q h; refine h ?_; clear h Q) | refine And.intro ?_ ?_ | refine subL_cons ?_ ?_ | refine sub_agg ?_ | exact sub_sl rfl rfl rfl | exact sub_refl_val _ _ | exact row_same rfl rfl rfl )))); done)); (try (any_goals fail)))
  | ((first | apply calld1 (hnb)); (focus ((iterate 2 (all_goals (repeat' (first | exact subL_nil | exact trivial | (intro Q h; refine h ?_; clear h Q) | refine And.intro ?_ ?_ | refine subL_cons ?_ ?_ | refine sub_agg ?_ | exact sub_sl rfl rfl rfl | exact sub_refl_val _ _ | exact row_same rfl rfl rfl )))); done)); (try (any_goals (first | (apply nodup_mk3; rfl)))))
  | ((first | apply calld1 (hun)); (focus ((iterate 2 (all_goals (repeat' (first | exact subL_nil | exact trivial | (intro Q h; refine h ?_; clear h Q) | refine And.intro ?_ ?_ | refine subL_cons ?_ ?_ | refine sub_agg ?_ | exact sub_sl rfl rfl rfl | exact sub_refl_val _ _ | exact row_same rfl rfl rfl )))); done)); (try (any_goals (first | (apply nodup_mk3; rfl)))))
  | ((first | apply call_detx [some 7, some 4, some 5, some 6, some 2, some 3] (hv) ); (focus ((iterate 2 (all_goals (repeat' (first | exact fam_ren rfl rfl rfl | (refine row_setr rfl (subL_cons (sub_int ?_) subL_nil) ?_ rfl rfl rfl) | exact subL_nil | exact trivial | (intro Q h; refine h ?_; clear h Q) | refine And.intro ?_ ?_ | refine subL_cons ?_ ?_ | refine sub_fn ?_ | refine var_mk ?_ | exact sub_ptr rfl rfl | exact sub_sl rfl rfl rfl | exact sub_refl_val _ _ | refine cells_succ ?_ ?_ | exact cell0 | with_reducible rfl | (apply row_lit rfl; (focus (refine cells_succ ?_ ?_))) )))))); (any_goals (first | (apply nodup_mk; rfl) )))
  | (apply ret_mk [some 0, some 3]; (focus (iterate 2 (all_goals (repeat' (first | exact trivial | (intro Q h; refine h ?_; clear h Q) | refine And.intro ?_ ?_ | exact row_same rfl rfl rfl | exact row_ren rfl rfl rfl | ((first | refine sub_sl rfl rfl ?_ ); first | with_reducible rfl | omega | ((try simp only [wS]); omega) | rfl) ))))); (any_goals (apply okIx_mk; rfl)))
  | omega))
end Go.Vx.L58

/- Lemmas of a small executor for the model, and contracts of functions, used for the law that this claim proves. No condition. -/
import Derived.Test.YtafojofaegmbnaaCF17
set_option linter.unusedSimpArgs false
set_option linter.unusedVariables false
set_option maxRecDepth 100000
namespace Go.Vx.L55
open Go Go.Proofs
abbrev nrB (r : Bool) (vs : List AV) : Blk := .arr r 28 1 vs.length fun i _ => nth vs i
def litOK (c : Nat → Nat → AV) : Nat → List Int → Prop
  | _, [] => True
  | k, a :: r => c k 0 = .val (.int .i64 a) ∧ litOK c (k + 1) r
theorem litOK_get {c : Nat → Nat → AV} : ∀ (l : List Int) (k : Nat), litOK c k l → ∀ i, i < l.length → c (k + i) 0 = .val (.int .i64 (l.getD i 0))
  | [], _, _, i, hi => absurd hi (by simp)
  | a :: r, k, h, 0, _ => h.1
  | a :: r, k, h, i + 1, hi => by
    have := litOK_get r (k + 1) h.2 i (by simpa using hi)
    rw [show k + (i + 1) = k + 1 + i by omega, this]; rfl
theorem lit_sub {ρ : Nat → Option Nat} {l : List Int} {m : Nat} {c : Nat → Nat → AV} {r : Bool} (hm : m = l.length) (h : litOK c 0 l) : BSub ρ (iB r l) (.arr true 3 1 m c) :=
  bsub_arr (fun _ => rfl) hm (fun i hi j hj => by
    obtain rfl : j = 0 := by omega
    have := litOK_get l 0 h i hi
    rw [Nat.zero_add] at this
    show sub ρ (.val (.int .i64 (l.getD i 0))) (c i 0)
    rw [this]
    exact sub_refl_val _ _)
def nrOK (ρ : Nat → Option Nat) (c : Nat → Nat → AV) : Nat → List AV → Prop
  | _, [] => True
  | k, a :: r => sub ρ a (c k 0) ∧ nrOK ρ c (k + 1) r
theorem nrOK_get {ρ : Nat → Option Nat} {c : Nat → Nat → AV} : ∀ (l : List AV) (k : Nat), nrOK ρ c k l → ∀ i, i < l.length → sub ρ (nth l i) (c (k + i) 0)
  | [], _, _, i, hi => absurd hi (by simp)
  | a :: r, k, h, 0, _ => h.1
  | a :: r, k, h, i + 1, hi => by
    have := nrOK_get r (k + 1) h.2 i (by simpa using hi)
    rw [show k + (i + 1) = k + 1 + i by omega]; exact this
theorem near_sub {ρ : Nat → Option Nat} {vs : List AV} {m : Nat} {c : Nat → Nat → AV} {r r' : Bool} (hr : (!r || r') = true) (hm : m = vs.length) (h : nrOK ρ c 0 vs) : BSub ρ (nrB r vs) (.arr r' 28 1 m c) :=
  bsub_arr (rw_imp hr) hm (fun i hi j hj => by
    obtain rfl : j = 0 := by omega
    have := nrOK_get vs 0 h i hi
    rwa [Nat.zero_add] at this)
theorem alloc0 {ρ : Nat → Option Nat} {c : Nat → Nat → AV} (hc : c = fun i j => .val ((List.replicate 24 (Value.bool false)).getD (i * 1 + j) undef) := by rfl) : BSub ρ (wB true 70 (fwU [])) (.arr true 70 1 24 c) :=
  bsub_arr (fun _ => rfl) rfl (fun i hi j hj => by
    obtain rfl : j = 0 := by omega
    subst hc
    have hi' : i < 24 := hi
    show sub ρ (.sb ((fwU []).getD i false)) (.val ((List.replicate 24 (Value.bool false)).getD (i * 1 + 0) undef))
    have e1 : (fwU []).getD i false = false := (by decide : ∀ i, i < 24 → (fwU []).getD i false = false) i hi'
    have e2 : (List.replicate 24 (Value.bool false)).getD (i * 1 + 0) undef = .bool false := by
      rw [List.getD_eq_getElem?_getD, Nat.mul_one, Nat.add_zero, List.getElem?_replicate, if_pos hi']; rfl
    rw [e1, e2]
    exact .inr rfl)
/-- A row of bools, one of them set. -/
theorem row_set {ρ : Nat → Option Nat} {rw : Bool} {t n n' i i0 : Nat} {l l' : List Bool} (hn : n = l'.length) (hn' : n' = l.length) (hl : l' = l.set i true) (hi : i0 = i) :
    BSub ρ (.arr rw t 1 n (boF l')) (.arr true t 1 n' fun i' j' => bif Nat.beq i' i0 && (Nat.ble 0 j' && Nat.blt j' (0 + 1)) then [AV.val (.bool true)].getD (j' - 0) .dead else boF l i' j') := by
  subst hn hn' hl hi
  refine bsub_arr (fun _ => rfl) (by simp) fun k hk j hj => ?_
  obtain rfl : j = 0 := by omega
  show sub ρ (.sb ((l.set i0 true).getD k false)) _
  by_cases h : k = i0
  · subst h
    have hb : (Nat.beq k k && (Nat.ble 0 0 && Nat.blt 0 (0 + 1))) = true := by simp [Nat.blt]
    have hk' : k < l.length := by simpa using hk
    simp only [hb, cond_true]
    have e : (l.set k true).getD k false = true := by simp [List.getD_eq_getElem?_getD, hk']
    rw [e]
    exact .inr rfl
  · have hb : (Nat.beq k i0 && (Nat.ble 0 0 && Nat.blt 0 (0 + 1))) = false := by
      have : Nat.beq k i0 = false := by
        cases hq : Nat.beq k i0
        · rfl
        · exact absurd (Nat.eq_of_beq_eq_true hq) h
      rw [this]; rfl
    simp only [hb, cond_false]
    have e : (l.set i0 true).getD k false = l.getD k false := by simp [List.getD_eq_getElem?_getD, List.getElem?_set_ne (Ne.symm h)]
    rw [e]
    exact .inl rfl
abbrev lA : List Ft := [⟨0, 5, 9, 3, 1⟩]
def rwA : Nat → List Int := fun i => [[], [], [0, 1], [1, 2, 2]].getD i []
def NA : Blk := nrB false [.val (.slice none 0 0), .val (.slice none 0 0), .sl 1 1 0 2 (some 2), .sl 2 1 0 3 (some 3)]
theorem nrA_same {ρ : Nat → Option Nat} (h1 : ρ 1 = some 1) (h2 : ρ 2 = some 2) : BSub ρ NA NA :=
  near_sub rfl rfl ⟨sub_refl_val _ _, sub_refl_val _ _, sub_sl h1 rfl rfl, sub_sl h2 rfl rfl, trivial⟩
abbrev bsA : List Blk := [NA, iB false [0, 1], iB false [1, 2, 2], fB lA]
theorem ndA : ndL lA = [0] := by decide +kernel
theorem unA : unF 4 rwA 4 [0] = [0, 2, 3] := by decide +kernel
theorem pU_yes {rw : Nat → List Int} {m : Nat} {ws w : List Bool} {c : Bool} {k : Nat} (hp : pU rw m ws k = (w, c)) (h1 : w.getD k false = false) (h2 : dbt (rw k) w m = true) : pU rw m ws (k + 1) = (w.set k true, true) := by
  unfold pU stU; rw [hp]; exact if_pos ⟨h1, h2⟩
theorem pU_no1 {rw : Nat → List Int} {m : Nat} {ws w : List Bool} {c : Bool} {k : Nat} (hp : pU rw m ws k = (w, c)) (h1 : w.getD k false = true) : pU rw m ws (k + 1) = (w, c) := by
  unfold pU stU; rw [hp]; exact if_neg (fun h => by rw [h1] at h; cases h.1)
theorem pU_no2 {rw : Nat → List Int} {m : Nat} {ws w : List Bool} {c : Bool} {k : Nat} (hp : pU rw m ws k = (w, c)) (h1 : dbt (rw k) w m = false) : pU rw m ws (k + 1) = (w, c) := by
  unfold pU stU; rw [hp]; exact if_neg (fun h => by rw [h1] at h; cases h.2)
theorem itU_24 {rw : Nat → List Int} {m K : Nat} {ws : List Bool} {j : Nat} (hj : j ≤ 24) (h : itU rw m K ws (j + 1) = itU rw m K ws j) : itU rw m K ws j = wsU rw m K ws := by
  have := itU_stop rw m K ws j h (24 - j)
  rw [show j + (24 - j) = 24 from by omega] at this
  exact this.symm
set_option maxHeartbeats 1000000 in
theorem unsound_c : Runs Try.prog 23 [.val (.int .i64 4), .sl 0 1 0 4 (some 4), .sl 3 5 0 1 (some 1)] bsA (Det (.sl 4 1 0 3 none) [NA, iB false [0, 1], iB false [1, 2, 2], fB lA, iB true [0, 2, 3]]) := by
  have hn := nodes_ok lA (some 1) (by decide +kernel)
  rw [ndA] at hn
  refine Runs.mk tabOK Try.call23 Try.func23 rfl Try.ntmps23 Try.results23 rfl ?_
  (repeat' (first
    | (intro Q h; refine h ?_; clear h Q)
    | refine bcase_t (by first | exact beq_self_eq_true _ | decide) ?_
    | refine bcase_f (by decide) ?_
    | (with_reducible refine bcase_true ?_)
    | (with_reducible refine bcase_false ?_)
    | (refine bcase_mk (fun hb => ?_) (fun hb => ?_) <;> (try simp only [nS, nT, eq_self, reduceCtorEq] at hb))
    | refine nil_mk (fun hz => ?_) ?_
    | refine draw_mk (by decide +kernel) ?_
    | refine seq_go ?_
    | refine And.intro (by first | omega | ((try simp only [wS]); omega) | rfl | decide) ?_
    | ((first | apply call1 (hn) | apply calld1 (hn)); (focus (iterate 2 (all_goals (repeat' (first | exact sub_dead | exact nrA_same rfl rfl | exact subL_nil | exact trivial | (intro Q h; refine h ?_; clear h Q) | refine And.intro ?_ ?_ | refine subL_cons ?_ ?_ | refine sub_agg ?_ | refine sub_tup ?_ | refine sub_fn ?_ | refine sub_bfn ?_ ?_ | refine var_mk ?_ | refine rd_var ?_ rfl | refine rd_rd ?_ | exact sub_ptr rfl rfl | exact sub_sl rfl rfl rfl | exact sub_refl_val _ _ | exact sub_sb rfl | exact sub_sbl rfl | exact row_same rfl rfl rfl | exact row_ren rfl rfl rfl | exact sub_nil rfl | ((first | refine sub_int ?_ | refine sub_sl rfl rfl ?_ | refine sub_nil ?_ | refine virt_mk ?_ | show (_ : Nat) = _); first | with_reducible rfl | omega | ((try simp only [wS]); omega) | rfl) | apply row_app1 | apply row_app2 | apply row_app1r | refine cells_succ ?_ ?_ | exact cell0 | with_reducible rfl | (refine And.left (b := True) ⟨?_, True.intro⟩; assumption) | refine sub_int ?_ | refine sub_sb ?_ | refine sub_sbl ?_ | refine sub_sl rfl rfl ?_ | (apply row_lit rfl; (focus (refine cells_succ ?_ ?_))) | refine row_same rfl ?_ ?_ | refine row_ren rfl ?_ ?_))))); (try (any_goals (first | (apply nodup_mk; rfl) | (apply nodup_mk2; rfl) | (apply nodup_mk3; rfl)))))
    | omega))
  refine loop_inv (σ := Nat × List Bool) (fun x => x.1 ≤ 1 ∧ x.2 = fwU (([0] : List Int).take x.1)) (fun x => ⟨[(0, .val (.int .i64 4)), (1, .sl 0 1 0 4 (some 4)), (7, .ptr 4 1 0 0), (22, .sl 5 1 0 1 none), (23, .val (.int .i64 1)), (24, .val (.int .i64 x.1))], [NA, iB false [0, 1], iB false [1, 2, 2], fB lA, wB true 70 x.2, iB true [0]]⟩) (fun x => 1 - x.1) ((0, fwU [])) ?_ ?_ ?_
  · exact ⟨by simp, rfl⟩
  · (apply le_mk [some 0, some 1, some 2, some 3, some 4, some 5]; (focus (iterate 2 (all_goals (repeat' (first | exact sub_dead | exact nrA_same rfl rfl | exact subL_nil | exact trivial | (intro Q h; refine h ?_; clear h Q) | refine And.intro ?_ ?_ | refine subL_cons ?_ ?_ | refine sub_agg ?_ | refine sub_tup ?_ | refine sub_fn ?_ | refine sub_bfn ?_ ?_ | refine var_mk ?_ | refine rd_var ?_ rfl | refine rd_rd ?_ | exact sub_ptr rfl rfl | exact sub_sl rfl rfl rfl | exact sub_refl_val _ _ | exact sub_sb rfl | exact sub_sbl rfl | exact row_same rfl rfl rfl | exact row_ren rfl rfl rfl | exact sub_nil rfl | ((first | refine sub_int ?_ | refine sub_sl rfl rfl ?_ | refine sub_nil ?_ | refine virt_mk ?_ | show (_ : Nat) = _); first | with_reducible rfl | omega | ((try simp only [wS]); omega) | rfl) | apply row_app1 | apply row_app2 | apply row_app1r | refine cells_succ ?_ ?_ | exact cell0 | with_reducible rfl | (refine And.left (b := True) ⟨?_, True.intro⟩; assumption) | refine sub_int ?_ | refine sub_sb ?_ | refine sub_sbl ?_ | refine sub_sl rfl rfl ?_ | (apply row_lit rfl; (focus (refine cells_succ ?_ ?_))) | refine row_same rfl ?_ ?_ | refine row_ren rfl ?_ ?_))))); (any_goals (apply okIx_mk; rfl)))
    all_goals exact alloc0
  rintro ⟨k, ws⟩ ⟨hk, ht⟩
  simp only at hk ht
  obtain rfl | rfl : k = 0 ∨ k = 1 := by omega
  · subst ht
    (repeat' (first
    | (intro Q h; refine h ?_; clear h Q)
    | refine bcase_t (by first | exact beq_self_eq_true _ | decide) ?_
    | refine bcase_f (by decide) ?_
    | (with_reducible refine bcase_true ?_)
    | (with_reducible refine bcase_false ?_)
    | (refine bcase_mk (fun hb => ?_) (fun hb => ?_) <;> (try simp only [nS, nT, eq_self, reduceCtorEq] at hb))
    | refine nil_mk (fun hz => ?_) ?_
    | refine draw_mk (by decide +kernel) ?_
    | refine seq_go ?_
    | refine And.intro (by first | omega | ((try simp only [wS]); omega) | rfl | decide) ?_
    | (apply next_sub (Subtype.mk (1, fwU [0]) _); (focus (apply le_mk [some 0, some 1, some 2, some 3, some 4, some 5]; (focus (iterate 2 (all_goals (repeat' (first | exact sub_dead | exact nrA_same rfl rfl | exact subL_nil | exact trivial | (intro Q h; refine h ?_; clear h Q) | refine And.intro ?_ ?_ | refine subL_cons ?_ ?_ | refine sub_agg ?_ | refine sub_tup ?_ | refine sub_fn ?_ | refine sub_bfn ?_ ?_ | refine var_mk ?_ | refine rd_var ?_ rfl | refine rd_rd ?_ | exact sub_ptr rfl rfl | exact sub_sl rfl rfl rfl | exact sub_refl_val _ _ | exact sub_sb rfl | exact sub_sbl rfl | exact row_same rfl rfl rfl | exact row_ren rfl rfl rfl | exact sub_nil rfl | ((first | refine sub_int ?_ | refine sub_sl rfl rfl ?_ | refine sub_nil ?_ | refine virt_mk ?_ | show (_ : Nat) = _); first | with_reducible rfl | omega | ((try simp only [wS]); omega) | rfl) | apply row_app1 | apply row_app2 | apply row_app1r | refine cells_succ ?_ ?_ | exact cell0 | with_reducible rfl | (refine And.left (b := True) ⟨?_, True.intro⟩; assumption) | refine sub_int ?_ | refine sub_sb ?_ | refine sub_sbl ?_ | refine sub_sl rfl rfl ?_ | (apply row_lit rfl; (focus (refine cells_succ ?_ ?_))) | refine row_same rfl ?_ ?_ | refine row_ren rfl ?_ ?_))))); (any_goals (apply okIx_mk; rfl)))); (all_goals (try (first | omega | (simp only; omega)))))
    | omega))
    all_goals first | rfl | exact ⟨by simp, rfl⟩
  have e0 : ws = fwU [0] := ht
  subst e0
  have hW : (fwU [0]).length = 24 := rfl
  have hfin : itU rwA 4 4 (fwU [0]) 24 = wsU rwA 4 4 (fwU [0]) := rfl
  have hun : idxU (wsU rwA 4 4 (fwU [0])) 4 = [0, 2, 3] := unA
  generalize fwU [0] = W at *
  (repeat' (first
    | (intro Q h; refine h ?_; clear h Q)
    | refine bcase_t (by first | exact beq_self_eq_true _ | decide) ?_
    | refine bcase_f (by decide) ?_
    | (with_reducible refine bcase_true ?_)
    | (with_reducible refine bcase_false ?_)
    | (refine bcase_mk (fun hb => ?_) (fun hb => ?_) <;> (try simp only [nS, nT, eq_self, reduceCtorEq] at hb))
    | refine nil_mk (fun hz => ?_) ?_
    | refine draw_mk (by decide +kernel) ?_
    | refine seq_go ?_
    | refine And.intro (by first | omega | ((try simp only [wS]); omega) | rfl | decide) ?_
    | (fail)
    | omega))
  refine loop_inv (σ := Nat × Bool) (fun x => x.1 ≤ cT (itU rwA 4 4 W x.1) ∧ (x.2 = false → itU rwA 4 4 W (x.1 + 1) = itU rwA 4 4 W x.1)) (fun x => ⟨[(0, .val (.int .i64 4)), (1, .sl 0 1 0 4 (some 4)), (7, .ptr 4 1 0 0), (10, .sb x.2)], [NA, iB false [0, 1], iB false [1, 2, 2], fB lA, wB true 70 (itU rwA 4 4 W x.1)]⟩) (fun x => 2 * (25 - x.1) + (if x.2 = true then 1 else 0)) ((0, true)) ?_ ?_ ?_
  · exact ⟨by simp, fun h => by cases h⟩
  · (apply le_mk [some 0, some 1, some 2, some 3, some 4]; (focus (iterate 2 (all_goals (repeat' (first | exact sub_dead | exact nrA_same rfl rfl | exact subL_nil | exact trivial | (intro Q h; refine h ?_; clear h Q) | refine And.intro ?_ ?_ | refine subL_cons ?_ ?_ | refine sub_agg ?_ | refine sub_tup ?_ | refine sub_fn ?_ | refine sub_bfn ?_ ?_ | refine var_mk ?_ | refine rd_var ?_ rfl | refine rd_rd ?_ | exact sub_ptr rfl rfl | exact sub_sl rfl rfl rfl | exact sub_refl_val _ _ | exact sub_sb rfl | exact sub_sbl rfl | exact row_same rfl rfl rfl | exact row_ren rfl rfl rfl | exact sub_nil rfl | ((first | refine sub_int ?_ | refine sub_sl rfl rfl ?_ | refine sub_nil ?_ | refine virt_mk ?_ | show (_ : Nat) = _); first | with_reducible rfl | omega | ((try simp only [wS]); omega) | rfl) | apply row_app1 | apply row_app2 | apply row_app1r | refine cells_succ ?_ ?_ | exact cell0 | with_reducible rfl | (refine And.left (b := True) ⟨?_, True.intro⟩; assumption) | refine sub_int ?_ | refine sub_sb ?_ | refine sub_sbl ?_ | refine sub_sl rfl rfl ?_ | (apply row_lit rfl; (focus (refine cells_succ ?_ ?_))) | refine row_same rfl ?_ ?_ | refine row_ren rfl ?_ ?_))))); (any_goals (apply okIx_mk; rfl)))
  rintro ⟨j, ch⟩ ⟨hj, hch⟩
  simp only at hj hch
  have hL := itU_len rwA 4 4 W j
  have hj24 : j ≤ 24 := by have := cT_le (itU rwA 4 4 W j); omega
  cases ch with
  | false =>
    have hF : (wsU rwA 4 4 W).length = 24 := by unfold wsU; rw [itU_len, hW]
    have eF := itU_24 hj24 (hch rfl)
    rw [eF] at *
    generalize wsU rwA 4 4 W = F at *
    clear hn hfin hj hch hL hj24 eF hW
    (repeat' (first
    | (intro Q h; refine h ?_; clear h Q)
    | refine bcase_t (by first | exact beq_self_eq_true _ | decide) ?_
    | refine bcase_f (by decide) ?_
    | (with_reducible refine bcase_true ?_)
    | (with_reducible refine bcase_false ?_)
    | (refine bcase_mk (fun hb => ?_) (fun hb => ?_) <;> (try simp only [nS, nT, eq_self, reduceCtorEq] at hb))
    | refine nil_mk (fun hz => ?_) ?_
    | refine draw_mk (by decide +kernel) ?_
    | refine seq_go ?_
    | refine And.intro (by first | omega | ((try simp only [wS]); omega) | rfl | decide) ?_
    | (fail)
    | omega))
    refine loop_inv (σ := Nat × List Int) (fun x => x.1 ≤ 4 ∧ x.2 = idxU F x.1) (fun x => ⟨[(12, .sl 5 1 0 x.2.length none), (56, .sl 4 1 0 4 (some 24)), (57, .val (.int .i64 4)), (58, .val (.int .i64 x.1))], [NA, iB false [0, 1], iB false [1, 2, 2], fB lA, wB true 70 F, iB true x.2]⟩) (fun x => 4 - x.1) ((0, [])) ?_ ?_ ?_
    · exact ⟨by simp, rfl⟩
    · (apply le_mk [some 0, some 1, some 2, some 3, some 4, none]; (focus (iterate 2 (all_goals (repeat' (first | exact sub_dead | exact nrA_same rfl rfl | exact subL_nil | exact trivial | (intro Q h; refine h ?_; clear h Q) | refine And.intro ?_ ?_ | refine subL_cons ?_ ?_ | refine sub_agg ?_ | refine sub_tup ?_ | refine sub_fn ?_ | refine sub_bfn ?_ ?_ | refine var_mk ?_ | refine rd_var ?_ rfl | refine rd_rd ?_ | exact sub_ptr rfl rfl | exact sub_sl rfl rfl rfl | exact sub_refl_val _ _ | exact sub_sb rfl | exact sub_sbl rfl | exact row_same rfl rfl rfl | exact row_ren rfl rfl rfl | exact sub_nil rfl | ((first | refine sub_int ?_ | refine sub_sl rfl rfl ?_ | refine sub_nil ?_ | refine virt_mk ?_ | show (_ : Nat) = _); first | with_reducible rfl | omega | ((try simp only [wS]); omega) | rfl) | apply row_app1 | apply row_app2 | apply row_app1r | refine cells_succ ?_ ?_ | exact cell0 | with_reducible rfl | (refine And.left (b := True) ⟨?_, True.intro⟩; assumption) | refine sub_int ?_ | refine sub_sb ?_ | refine sub_sbl ?_ | refine sub_sl rfl rfl ?_ | (apply row_lit rfl; (focus (refine cells_succ ?_ ?_))) | refine row_same rfl ?_ ?_ | refine row_ren rfl ?_ ?_))))); (any_goals (apply okIx_mk; rfl)))
    rintro ⟨k, ns⟩ ⟨hk, ht⟩
    simp only at hk ht
    have hS := idxU_succ F k
    have hl := idxU_len F k
    rw [← ht] at hl
    by_cases h4 : k = 4
    · subst h4
      rw [hun] at ht
      subst ht
      (repeat' (first
    | (intro Q h; refine h ?_; clear h Q)
    | (with_reducible refine bcase_true ?_)
    | (with_reducible refine bcase_false ?_)
    | (refine bcase_mk (fun hb => ?_) (fun hb => ?_) <;> (try simp only [nS, nT, eq_self, reduceCtorEq] at hb))
    | refine nil_mk (fun hz => ?_) ?_
    | refine draw_mk (by decide +kernel) ?_
    | refine seq_go ?_
    | refine And.intro (by first | omega | ((try simp only [wS]); omega) | rfl | decide) ?_
    | (apply ret_mk [some 0, some 1, some 2, some 3, some 5]; (focus (iterate 2 (all_goals (repeat' (first | exact sub_dead | exact nrA_same rfl rfl | exact subL_nil | exact trivial | (intro Q h; refine h ?_; clear h Q) | refine And.intro ?_ ?_ | refine subL_cons ?_ ?_ | refine sub_agg ?_ | refine sub_tup ?_ | refine sub_fn ?_ | refine sub_bfn ?_ ?_ | refine var_mk ?_ | refine rd_var ?_ rfl | refine rd_rd ?_ | exact sub_ptr rfl rfl | exact sub_sl rfl rfl rfl | exact sub_refl_val _ _ | exact sub_sb rfl | exact sub_sbl rfl | exact row_same rfl rfl rfl | exact row_ren rfl rfl rfl | exact sub_nil rfl | ((first | refine sub_int ?_ | refine sub_sl rfl rfl ?_ | refine sub_nil ?_ | refine virt_mk ?_ | show (_ : Nat) = _); first | with_reducible rfl | omega | ((try simp only [wS]); omega) | rfl) | apply row_app1 | apply row_app2 | apply row_app1r | refine cells_succ ?_ ?_ | exact cell0 | with_reducible rfl | (refine And.left (b := True) ⟨?_, True.intro⟩; assumption) | refine sub_int ?_ | refine sub_sb ?_ | refine sub_sbl ?_ | refine sub_sl rfl rfl ?_ | (apply row_lit rfl; (focus (refine cells_succ ?_ ?_))) | refine row_same rfl ?_ ?_ | refine row_ren rfl ?_ ?_))))); (any_goals (apply okIx_mk; rfl)))
    | omega))
    (repeat' (first
    | (intro Q h; refine h ?_; clear h Q)
    | (with_reducible refine bcase_true ?_)
    | (with_reducible refine bcase_false ?_)
    | (refine bcase_mk (fun hb => ?_) (fun hb => ?_) <;> (try simp only [nS, nT, eq_self, reduceCtorEq] at hb))
    | refine nil_mk (fun hz => ?_) ?_
    | refine draw_mk (by decide +kernel) ?_
    | refine seq_go ?_
    | refine And.intro (by first | omega | ((try simp only [wS]); omega) | rfl | decide) ?_
    | (fail)
    | omega))
    all_goals (try simp only [Nat.zero_add, Int.toNat_natCast] at *)
    all_goals first
      | (have hh : (k + 1, ns ++ [(k : Int)]).1 ≤ 4 ∧ (k + 1, ns ++ [(k : Int)]).2 = idxU F (k + 1, ns ++ [(k : Int)]).1 := ⟨by simp only; omega, by simp only [hS, ht]; rw [if_pos hb]⟩
         (apply next_sub (Subtype.mk (k + 1, ns ++ [(k : Int)]) hh); (focus (apply le_mk [some 0, some 1, some 2, some 3, some 4, some _]; (focus (iterate 2 (all_goals (repeat' (first | exact sub_dead | exact nrA_same rfl rfl | exact subL_nil | exact trivial | (intro Q h; refine h ?_; clear h Q) | refine And.intro ?_ ?_ | refine subL_cons ?_ ?_ | refine sub_agg ?_ | refine sub_tup ?_ | refine sub_fn ?_ | refine sub_bfn ?_ ?_ | refine var_mk ?_ | refine rd_var ?_ rfl | refine rd_rd ?_ | exact sub_ptr rfl rfl | exact sub_sl rfl rfl rfl | exact sub_refl_val _ _ | exact sub_sb rfl | exact sub_sbl rfl | exact row_same rfl rfl rfl | exact row_ren rfl rfl rfl | exact sub_nil rfl | ((first | refine sub_int ?_ | refine sub_sl rfl rfl ?_ | refine sub_nil ?_ | refine virt_mk ?_ | show (_ : Nat) = _); first | with_reducible rfl | omega | ((try simp only [wS]); omega) | rfl) | apply row_app1 | apply row_app2 | apply row_app1r | refine cells_succ ?_ ?_ | exact cell0 | with_reducible rfl | (refine And.left (b := True) ⟨?_, True.intro⟩; assumption) | refine sub_int ?_ | refine sub_sb ?_ | refine sub_sbl ?_ | refine sub_sl rfl rfl ?_ | (apply row_lit rfl; (focus (refine cells_succ ?_ ?_))) | refine row_same rfl ?_ ?_ | refine row_ren rfl ?_ ?_))))); (any_goals (apply okIx_mk; rfl)))); (all_goals (try (first | omega | (simp only; omega)))))
         all_goals (try (simp only [List.length_append, List.length_cons, List.length_nil]; done)))
      | (have hh : (k + 1, ns).1 ≤ 4 ∧ (k + 1, ns).2 = idxU F (k + 1, ns).1 := ⟨by simp only; omega, by simp only [hS, ht]; rw [if_neg (by rw [hb]; exact Bool.false_ne_true)]⟩
         (apply next_sub (Subtype.mk (k + 1, ns) hh); (focus (apply le_mk [some 0, some 1, some 2, some 3, some 4, some 5]; (focus (iterate 2 (all_goals (repeat' (first | exact sub_dead | exact nrA_same rfl rfl | exact subL_nil | exact trivial | (intro Q h; refine h ?_; clear h Q) | refine And.intro ?_ ?_ | refine subL_cons ?_ ?_ | refine sub_agg ?_ | refine sub_tup ?_ | refine sub_fn ?_ | refine sub_bfn ?_ ?_ | refine var_mk ?_ | refine rd_var ?_ rfl | refine rd_rd ?_ | exact sub_ptr rfl rfl | exact sub_sl rfl rfl rfl | exact sub_refl_val _ _ | exact sub_sb rfl | exact sub_sbl rfl | exact row_same rfl rfl rfl | exact row_ren rfl rfl rfl | exact sub_nil rfl | ((first | refine sub_int ?_ | refine sub_sl rfl rfl ?_ | refine sub_nil ?_ | refine virt_mk ?_ | show (_ : Nat) = _); first | with_reducible rfl | omega | ((try simp only [wS]); omega) | rfl) | apply row_app1 | apply row_app2 | apply row_app1r | refine cells_succ ?_ ?_ | exact cell0 | with_reducible rfl | (refine And.left (b := True) ⟨?_, True.intro⟩; assumption) | refine sub_int ?_ | refine sub_sb ?_ | refine sub_sbl ?_ | refine sub_sl rfl rfl ?_ | (apply row_lit rfl; (focus (refine cells_succ ?_ ?_))) | refine row_same rfl ?_ ?_ | refine row_ren rfl ?_ ?_))))); (any_goals (apply okIx_mk; rfl)))); (all_goals (try (first | omega | (simp only; omega))))))
      | fail
  | true =>
    have hP := pU_ch rwA 4 (itU rwA 4 4 W j) 4 (by omega)
    have hI : itU rwA 4 4 W (j + 1) = (pU rwA 4 (itU rwA 4 4 W j) 4).1 := rfl
    have hPL := pU_len rwA 4 (itU rwA 4 4 W j)
    clear hn hfin hun hch
    generalize hV : itU rwA 4 4 W j = V at *
    have e2 : wB true 70 (itU rwA 4 4 W j) = wB true 70 V := by rw [hV]
    (repeat' (first
    | (intro Q h; refine h ?_; clear h Q)
    | (with_reducible refine bcase_true ?_)
    | (with_reducible refine bcase_false ?_)
    | (refine bcase_mk (fun hb => ?_) (fun hb => ?_) <;> (try simp only [nS, nT, eq_self, reduceCtorEq] at hb))
    | refine nil_mk (fun hz => ?_) ?_
    | refine draw_mk (by decide +kernel) ?_
    | refine seq_go ?_
    | refine And.intro (by first | omega | ((try simp only [wS]); omega) | rfl | decide) ?_
    | (fail)
    | omega))
    refine loop_inv (σ := Nat) (fun x => x ≤ 4) (fun x => ⟨[(0, .val (.int .i64 4)), (1, .sl 0 1 0 4 (some 4)), (7, .ptr 4 1 0 0), (10, .sb (pU rwA 4 V x).2), (35, .val (.int .i64 4)), (36, .val (.int .i64 x))], [NA, iB false [0, 1], iB false [1, 2, 2], fB lA, wB true 70 (pU rwA 4 V x).1]⟩) (fun x => 4 - x) (0) ?_ ?_ ?_
    · omega
    · (apply le_mk [some 0, some 1, some 2, some 3, some 4]; (focus (iterate 2 (all_goals (repeat' (first | exact sub_dead | exact nrA_same rfl rfl | exact subL_nil | exact trivial | (intro Q h; refine h ?_; clear h Q) | refine And.intro ?_ ?_ | refine subL_cons ?_ ?_ | refine sub_agg ?_ | refine sub_tup ?_ | refine sub_fn ?_ | refine sub_bfn ?_ ?_ | refine var_mk ?_ | refine rd_var ?_ rfl | refine rd_rd ?_ | exact sub_ptr rfl rfl | exact sub_sl rfl rfl rfl | exact sub_refl_val _ _ | exact sub_sb rfl | exact sub_sbl rfl | exact row_same rfl rfl rfl | exact row_ren rfl rfl rfl | exact sub_nil rfl | ((first | refine sub_int ?_ | refine sub_sl rfl rfl ?_ | refine sub_nil ?_ | refine virt_mk ?_ | show (_ : Nat) = _); first | with_reducible rfl | omega | ((try simp only [wS]); omega) | rfl) | apply row_app1 | apply row_app2 | apply row_app1r | refine cells_succ ?_ ?_ | exact cell0 | with_reducible rfl | (refine And.left (b := True) ⟨?_, True.intro⟩; assumption) | refine sub_int ?_ | refine sub_sb ?_ | refine sub_sbl ?_ | refine sub_sl rfl rfl ?_ | (apply row_lit rfl; (focus (refine cells_succ ?_ ?_))) | refine row_same rfl ?_ ?_ | refine row_ren rfl ?_ ?_))))); (any_goals (apply okIx_mk; rfl)))
    intro k hk
    have hlen := hPL k
    by_cases h4 : k = 4
    · subst h4
      generalize hp : pU rwA 4 V 4 = pp at *
      obtain ⟨w, c⟩ := pp
      simp only at hP hI hlen
      cases c with
      | false =>
        have hw : w = V := hP.1 rfl
        subst hw
        clear hP
        have hh : (j, false).1 ≤ cT (itU rwA 4 4 W (j, false).1) ∧ ((j, false).2 = false → itU rwA 4 4 W ((j, false).1 + 1) = itU rwA 4 4 W (j, false).1) :=
          ⟨by simp only [hV]; exact hj, fun _ => by simp only [hV, hI]⟩
        (repeat' (first
    | (intro Q h; refine h ?_; clear h Q)
    | (with_reducible refine bcase_true ?_)
    | (with_reducible refine bcase_false ?_)
    | (refine bcase_mk (fun hb => ?_) (fun hb => ?_) <;> (try simp only [nS, nT, eq_self, reduceCtorEq] at hb))
    | refine nil_mk (fun hz => ?_) ?_
    | refine draw_mk (by decide +kernel) ?_
    | refine seq_go ?_
    | refine And.intro (by first | omega | ((try simp only [wS]); omega) | rfl | decide) ?_
    | (fail)
    | omega))
        all_goals (apply next_sub (Subtype.mk (j, false) hh); (focus (simp only [hV]; clear hh hI hV hp; apply le_mk [some 0, some 1, some 2, some 3, some 4]; (focus (iterate 2 (all_goals (repeat' (first | exact sub_dead | exact nrA_same rfl rfl | exact subL_nil | exact trivial | (intro Q h; refine h ?_; clear h Q) | refine And.intro ?_ ?_ | refine subL_cons ?_ ?_ | refine sub_agg ?_ | refine sub_tup ?_ | refine sub_fn ?_ | refine sub_bfn ?_ ?_ | refine var_mk ?_ | refine rd_var ?_ rfl | refine rd_rd ?_ | exact sub_ptr rfl rfl | exact sub_sl rfl rfl rfl | exact sub_refl_val _ _ | exact sub_sb rfl | exact sub_sbl rfl | exact row_same rfl rfl rfl | exact row_ren rfl rfl rfl | exact sub_nil rfl | ((first | refine sub_int ?_ | refine sub_sl rfl rfl ?_ | refine sub_nil ?_ | refine virt_mk ?_ | show (_ : Nat) = _); first | with_reducible rfl | omega | ((try simp only [wS]); omega) | rfl) | apply row_app1 | apply row_app2 | apply row_app1r | refine cells_succ ?_ ?_ | exact cell0 | with_reducible rfl | (refine And.left (b := True) ⟨?_, True.intro⟩; assumption) | refine sub_int ?_ | refine sub_sb ?_ | refine sub_sbl ?_ | refine sub_sl rfl rfl ?_ | (apply row_lit rfl; (focus (refine cells_succ ?_ ?_))) | refine row_same rfl ?_ ?_ | refine row_ren rfl ?_ ?_))))); (any_goals (apply okIx_mk; rfl)))); (all_goals (try (simp only [Bool.false_eq_true, if_false, if_true]; omega))))
      | true =>
        have hc := hP.2.2 rfl
        clear hP
        have hcl := cT_le w
        have hh : (j + 1, true).1 ≤ cT (itU rwA 4 4 W (j + 1, true).1) ∧ ((j + 1, true).2 = false → itU rwA 4 4 W ((j + 1, true).1 + 1) = itU rwA 4 4 W (j + 1, true).1) :=
          ⟨by show j + 1 ≤ cT (itU rwA 4 4 W (j + 1)); rw [hI]; omega, fun h => by cases h⟩
        (repeat' (first
    | (intro Q h; refine h ?_; clear h Q)
    | (with_reducible refine bcase_true ?_)
    | (with_reducible refine bcase_false ?_)
    | (refine bcase_mk (fun hb => ?_) (fun hb => ?_) <;> (try simp only [nS, nT, eq_self, reduceCtorEq] at hb))
    | refine nil_mk (fun hz => ?_) ?_
    | refine draw_mk (by decide +kernel) ?_
    | refine seq_go ?_
    | refine And.intro (by first | omega | ((try simp only [wS]); omega) | rfl | decide) ?_
    | (fail)
    | omega))
        all_goals (apply next_sub (Subtype.mk (j + 1, true) hh); (focus (simp only [hI]; clear hh hI hV hp; apply le_mk [some 0, some 1, some 2, some 3, some 4]; (focus (iterate 2 (all_goals (repeat' (first | exact sub_dead | exact nrA_same rfl rfl | exact subL_nil | exact trivial | (intro Q h; refine h ?_; clear h Q) | refine And.intro ?_ ?_ | refine subL_cons ?_ ?_ | refine sub_agg ?_ | refine sub_tup ?_ | refine sub_fn ?_ | refine sub_bfn ?_ ?_ | refine var_mk ?_ | refine rd_var ?_ rfl | refine rd_rd ?_ | exact sub_ptr rfl rfl | exact sub_sl rfl rfl rfl | exact sub_refl_val _ _ | exact sub_sb rfl | exact sub_sbl rfl | exact row_same rfl rfl rfl | exact row_ren rfl rfl rfl | exact sub_nil rfl | ((first | refine sub_int ?_ | refine sub_sl rfl rfl ?_ | refine sub_nil ?_ | refine virt_mk ?_ | show (_ : Nat) = _); first | with_reducible rfl | omega | ((try simp only [wS]); omega) | rfl) | apply row_app1 | apply row_app2 | apply row_app1r | refine cells_succ ?_ ?_ | exact cell0 | with_reducible rfl | (refine And.left (b := True) ⟨?_, True.intro⟩; assumption) | refine sub_int ?_ | refine sub_sb ?_ | refine sub_sbl ?_ | refine sub_sl rfl rfl ?_ | (apply row_lit rfl; (focus (refine cells_succ ?_ ?_))) | refine row_same rfl ?_ ?_ | refine row_ren rfl ?_ ?_))))); (any_goals (apply okIx_mk; rfl)))); (all_goals (try (simp only [Bool.false_eq_true, if_false, if_true]; omega))))
    have hV24 : V.length = 24 := by rw [hL, hW]
    clear hP hI hV hPL hj hL e2
    generalize hp : pU rwA 4 V k = pp at *
    obtain ⟨w, c⟩ := pp
    have hY := fun a b => pU_yes hp a b
    have hN1 := fun a => pU_no1 hp a
    have hN2 := fun a => pU_no2 hp a
    have hw : w.length = 24 := by simp only at hlen; omega
    clear hlen
    obtain rfl | rfl | rfl | rfl : k = 0 ∨ k = 1 ∨ k = 2 ∨ k = 3 := by omega
    · have hN1 := hN1
      have hdb := doubtful_ok (rwA 0) w 4 70 none (some 24) (by decide) (by omega) (by omega)
      (repeat' (first
    | (intro Q h; refine h ?_; clear h Q)
    | (with_reducible refine bcase_true ?_)
    | (with_reducible refine bcase_false ?_)
    | (refine bcase_mk (fun hb => ?_) (fun hb => ?_) <;> (try simp only [nS, nT, eq_self, reduceCtorEq] at hb))
    | refine nil_mk (fun hz => ?_) ?_
    | refine draw_mk (by decide +kernel) ?_
    | refine seq_go ?_
    | refine And.intro (by first | omega | ((try simp only [wS]); omega) | rfl | decide) ?_
    | ((first | apply call_detx [none, some 4] (hdb) | apply calld_detx [none, some 4] (hdb)); (focus ((iterate 2 (all_goals (repeat' (first | exact sub_dead | exact nrA_same rfl rfl | exact subL_nil | exact trivial | (intro Q h; refine h ?_; clear h Q) | refine And.intro ?_ ?_ | refine subL_cons ?_ ?_ | refine sub_agg ?_ | refine sub_tup ?_ | refine sub_fn ?_ | refine sub_bfn ?_ ?_ | refine var_mk ?_ | refine rd_var ?_ rfl | refine rd_rd ?_ | exact sub_ptr rfl rfl | exact sub_sl rfl rfl rfl | exact sub_refl_val _ _ | exact sub_sb rfl | exact sub_sbl rfl | exact row_same rfl rfl rfl | exact row_ren rfl rfl rfl | exact sub_nil rfl | ((first | refine sub_int ?_ | refine sub_sl rfl rfl ?_ | refine sub_nil ?_ | refine virt_mk ?_ | show (_ : Nat) = _); first | with_reducible rfl | omega | ((try simp only [wS]); omega) | rfl) | apply row_app1 | apply row_app2 | apply row_app1r | refine cells_succ ?_ ?_ | exact cell0 | with_reducible rfl | (refine And.left (b := True) ⟨?_, True.intro⟩; assumption) | refine sub_int ?_ | refine sub_sb ?_ | refine sub_sbl ?_ | refine sub_sl rfl rfl ?_ | (apply row_lit rfl; (focus (refine cells_succ ?_ ?_))) | refine row_same rfl ?_ ?_ | refine row_ren rfl ?_ ?_)))); done)); (any_goals (first | (apply nodup_mk; rfl) | (apply nodup_mk2; rfl) | (apply nodup_mk3; rfl))))
    | omega))
      all_goals (try simp only [Nat.zero_add, Int.toNat_natCast] at *)
      · (apply next_sub (Subtype.mk (0 + 1) (by omega)); (focus (have hq := hN1 (by assumption); simp only [hq]; clear hq hY hN1 hN2 hp hdb; apply le_mk [some 0, some 1, some 2, some 3, some 4]; (focus (iterate 2 (all_goals (repeat' (first | exact sub_dead | exact nrA_same rfl rfl | exact subL_nil | exact trivial | (intro Q h; refine h ?_; clear h Q) | refine And.intro ?_ ?_ | refine subL_cons ?_ ?_ | refine sub_agg ?_ | refine sub_tup ?_ | refine sub_fn ?_ | refine sub_bfn ?_ ?_ | refine var_mk ?_ | refine rd_var ?_ rfl | refine rd_rd ?_ | exact sub_ptr rfl rfl | exact sub_sl rfl rfl rfl | exact sub_refl_val _ _ | exact sub_sb rfl | exact sub_sbl rfl | exact row_same rfl rfl rfl | exact row_ren rfl rfl rfl | exact sub_nil rfl | ((first | refine sub_int ?_ | refine sub_sl rfl rfl ?_ | refine sub_nil ?_ | refine virt_mk ?_ | show (_ : Nat) = _); first | with_reducible rfl | omega | ((try simp only [wS]); omega) | rfl) | apply row_app1 | apply row_app2 | apply row_app1r | refine cells_succ ?_ ?_ | exact cell0 | with_reducible rfl | (refine And.left (b := True) ⟨?_, True.intro⟩; assumption) | refine sub_int ?_ | refine sub_sb ?_ | refine sub_sbl ?_ | refine sub_sl rfl rfl ?_ | (apply row_lit rfl; (focus (refine cells_succ ?_ ?_))) | refine row_same rfl ?_ ?_ | refine row_ren rfl ?_ ?_))))); (any_goals (apply okIx_mk; rfl)))); (all_goals (try (first | omega | (simp only; omega)))))
      · (apply next_sub (Subtype.mk (0 + 1) (by omega)); (focus (have hq := hY (by assumption) (by assumption); simp only [hq]; clear hq hY hN1 hN2 hp hdb; apply le_mk [some 0, some 1, some 2, some 3, some 4]; (focus (iterate 2 (all_goals (repeat' (first | exact sub_dead | exact nrA_same rfl rfl | exact subL_nil | exact trivial | (intro Q h; refine h ?_; clear h Q) | refine And.intro ?_ ?_ | refine subL_cons ?_ ?_ | refine sub_agg ?_ | refine sub_tup ?_ | refine sub_fn ?_ | refine sub_bfn ?_ ?_ | refine var_mk ?_ | refine rd_var ?_ rfl | refine rd_rd ?_ | exact sub_ptr rfl rfl | exact sub_sl rfl rfl rfl | exact sub_refl_val _ _ | exact sub_sb rfl | exact sub_sbl rfl | exact row_same rfl rfl rfl | exact row_ren rfl rfl rfl | exact sub_nil rfl | ((first | refine sub_int ?_ | refine sub_sl rfl rfl ?_ | refine sub_nil ?_ | refine virt_mk ?_ | show (_ : Nat) = _); first | with_reducible rfl | omega | ((try simp only [wS]); omega) | rfl) | apply row_app1 | apply row_app2 | apply row_app1r | refine cells_succ ?_ ?_ | exact cell0 | with_reducible rfl | (refine And.left (b := True) ⟨?_, True.intro⟩; assumption) | refine sub_int ?_ | refine sub_sb ?_ | refine sub_sbl ?_ | refine sub_sl rfl rfl ?_ | (apply row_lit rfl; (focus (refine cells_succ ?_ ?_))) | refine row_same rfl ?_ ?_ | refine row_ren rfl ?_ ?_))))); (any_goals (apply okIx_mk; rfl)))); (all_goals (try (first | omega | (simp only; omega)))))
        all_goals (first | rfl | exact row_set (i := 0) (l := w) rfl rfl rfl rfl)
      · (apply next_sub (Subtype.mk (0 + 1) (by omega)); (focus (have hq := hN2 (by assumption); simp only [hq]; clear hq hY hN1 hN2 hp hdb; apply le_mk [some 0, some 1, some 2, some 3, some 4]; (focus (iterate 2 (all_goals (repeat' (first | exact sub_dead | exact nrA_same rfl rfl | exact subL_nil | exact trivial | (intro Q h; refine h ?_; clear h Q) | refine And.intro ?_ ?_ | refine subL_cons ?_ ?_ | refine sub_agg ?_ | refine sub_tup ?_ | refine sub_fn ?_ | refine sub_bfn ?_ ?_ | refine var_mk ?_ | refine rd_var ?_ rfl | refine rd_rd ?_ | exact sub_ptr rfl rfl | exact sub_sl rfl rfl rfl | exact sub_refl_val _ _ | exact sub_sb rfl | exact sub_sbl rfl | exact row_same rfl rfl rfl | exact row_ren rfl rfl rfl | exact sub_nil rfl | ((first | refine sub_int ?_ | refine sub_sl rfl rfl ?_ | refine sub_nil ?_ | refine virt_mk ?_ | show (_ : Nat) = _); first | with_reducible rfl | omega | ((try simp only [wS]); omega) | rfl) | apply row_app1 | apply row_app2 | apply row_app1r | refine cells_succ ?_ ?_ | exact cell0 | with_reducible rfl | (refine And.left (b := True) ⟨?_, True.intro⟩; assumption) | refine sub_int ?_ | refine sub_sb ?_ | refine sub_sbl ?_ | refine sub_sl rfl rfl ?_ | (apply row_lit rfl; (focus (refine cells_succ ?_ ?_))) | refine row_same rfl ?_ ?_ | refine row_ren rfl ?_ ?_))))); (any_goals (apply okIx_mk; rfl)))); (all_goals (try (first | omega | (simp only; omega)))))
    · have hN1 := hN1
      have hdb := doubtful_ok (rwA 1) w 4 70 none (some 24) (by decide) (by omega) (by omega)
      (repeat' (first
    | (intro Q h; refine h ?_; clear h Q)
    | (with_reducible refine bcase_true ?_)
    | (with_reducible refine bcase_false ?_)
    | (refine bcase_mk (fun hb => ?_) (fun hb => ?_) <;> (try simp only [nS, nT, eq_self, reduceCtorEq] at hb))
    | refine nil_mk (fun hz => ?_) ?_
    | refine draw_mk (by decide +kernel) ?_
    | refine seq_go ?_
    | refine And.intro (by first | omega | ((try simp only [wS]); omega) | rfl | decide) ?_
    | ((first | apply call_detx [none, some 4] (hdb) | apply calld_detx [none, some 4] (hdb)); (focus ((iterate 2 (all_goals (repeat' (first | exact sub_dead | exact nrA_same rfl rfl | exact subL_nil | exact trivial | (intro Q h; refine h ?_; clear h Q) | refine And.intro ?_ ?_ | refine subL_cons ?_ ?_ | refine sub_agg ?_ | refine sub_tup ?_ | refine sub_fn ?_ | refine sub_bfn ?_ ?_ | refine var_mk ?_ | refine rd_var ?_ rfl | refine rd_rd ?_ | exact sub_ptr rfl rfl | exact sub_sl rfl rfl rfl | exact sub_refl_val _ _ | exact sub_sb rfl | exact sub_sbl rfl | exact row_same rfl rfl rfl | exact row_ren rfl rfl rfl | exact sub_nil rfl | ((first | refine sub_int ?_ | refine sub_sl rfl rfl ?_ | refine sub_nil ?_ | refine virt_mk ?_ | show (_ : Nat) = _); first | with_reducible rfl | omega | ((try simp only [wS]); omega) | rfl) | apply row_app1 | apply row_app2 | apply row_app1r | refine cells_succ ?_ ?_ | exact cell0 | with_reducible rfl | (refine And.left (b := True) ⟨?_, True.intro⟩; assumption) | refine sub_int ?_ | refine sub_sb ?_ | refine sub_sbl ?_ | refine sub_sl rfl rfl ?_ | (apply row_lit rfl; (focus (refine cells_succ ?_ ?_))) | refine row_same rfl ?_ ?_ | refine row_ren rfl ?_ ?_)))); done)); (any_goals (first | (apply nodup_mk; rfl) | (apply nodup_mk2; rfl) | (apply nodup_mk3; rfl))))
    | omega))
      all_goals (try simp only [Nat.zero_add, Int.toNat_natCast] at *)
      · (apply next_sub (Subtype.mk (1 + 1) (by omega)); (focus (have hq := hN1 (by assumption); simp only [hq]; clear hq hY hN1 hN2 hp hdb; apply le_mk [some 0, some 1, some 2, some 3, some 4]; (focus (iterate 2 (all_goals (repeat' (first | exact sub_dead | exact nrA_same rfl rfl | exact subL_nil | exact trivial | (intro Q h; refine h ?_; clear h Q) | refine And.intro ?_ ?_ | refine subL_cons ?_ ?_ | refine sub_agg ?_ | refine sub_tup ?_ | refine sub_fn ?_ | refine sub_bfn ?_ ?_ | refine var_mk ?_ | refine rd_var ?_ rfl | refine rd_rd ?_ | exact sub_ptr rfl rfl | exact sub_sl rfl rfl rfl | exact sub_refl_val _ _ | exact sub_sb rfl | exact sub_sbl rfl | exact row_same rfl rfl rfl | exact row_ren rfl rfl rfl | exact sub_nil rfl | ((first | refine sub_int ?_ | refine sub_sl rfl rfl ?_ | refine sub_nil ?_ | refine virt_mk ?_ | show (_ : Nat) = _); first | with_reducible rfl | omega | ((try simp only [wS]); omega) | rfl) | apply row_app1 | apply row_app2 | apply row_app1r | refine cells_succ ?_ ?_ | exact cell0 | with_reducible rfl | (refine And.left (b := True) ⟨?_, True.intro⟩; assumption) | refine sub_int ?_ | refine sub_sb ?_ | refine sub_sbl ?_ | refine sub_sl rfl rfl ?_ | (apply row_lit rfl; (focus (refine cells_succ ?_ ?_))) | refine row_same rfl ?_ ?_ | refine row_ren rfl ?_ ?_))))); (any_goals (apply okIx_mk; rfl)))); (all_goals (try (first | omega | (simp only; omega)))))
      · (apply next_sub (Subtype.mk (1 + 1) (by omega)); (focus (have hq := hY (by assumption) (by assumption); simp only [hq]; clear hq hY hN1 hN2 hp hdb; apply le_mk [some 0, some 1, some 2, some 3, some 4]; (focus (iterate 2 (all_goals (repeat' (first | exact sub_dead | exact nrA_same rfl rfl | exact subL_nil | exact trivial | (intro Q h; refine h ?_; clear h Q) | refine And.intro ?_ ?_ | refine subL_cons ?_ ?_ | refine sub_agg ?_ | refine sub_tup ?_ | refine sub_fn ?_ | refine sub_bfn ?_ ?_ | refine var_mk ?_ | refine rd_var ?_ rfl | refine rd_rd ?_ | exact sub_ptr rfl rfl | exact sub_sl rfl rfl rfl | exact sub_refl_val _ _ | exact sub_sb rfl | exact sub_sbl rfl | exact row_same rfl rfl rfl | exact row_ren rfl rfl rfl | exact sub_nil rfl | ((first | refine sub_int ?_ | refine sub_sl rfl rfl ?_ | refine sub_nil ?_ | refine virt_mk ?_ | show (_ : Nat) = _); first | with_reducible rfl | omega | ((try simp only [wS]); omega) | rfl) | apply row_app1 | apply row_app2 | apply row_app1r | refine cells_succ ?_ ?_ | exact cell0 | with_reducible rfl | (refine And.left (b := True) ⟨?_, True.intro⟩; assumption) | refine sub_int ?_ | refine sub_sb ?_ | refine sub_sbl ?_ | refine sub_sl rfl rfl ?_ | (apply row_lit rfl; (focus (refine cells_succ ?_ ?_))) | refine row_same rfl ?_ ?_ | refine row_ren rfl ?_ ?_))))); (any_goals (apply okIx_mk; rfl)))); (all_goals (try (first | omega | (simp only; omega)))))
        all_goals (first | rfl | exact row_set (i := 1) (l := w) rfl rfl rfl rfl)
      · (apply next_sub (Subtype.mk (1 + 1) (by omega)); (focus (have hq := hN2 (by assumption); simp only [hq]; clear hq hY hN1 hN2 hp hdb; apply le_mk [some 0, some 1, some 2, some 3, some 4]; (focus (iterate 2 (all_goals (repeat' (first | exact sub_dead | exact nrA_same rfl rfl | exact subL_nil | exact trivial | (intro Q h; refine h ?_; clear h Q) | refine And.intro ?_ ?_ | refine subL_cons ?_ ?_ | refine sub_agg ?_ | refine sub_tup ?_ | refine sub_fn ?_ | refine sub_bfn ?_ ?_ | refine var_mk ?_ | refine rd_var ?_ rfl | refine rd_rd ?_ | exact sub_ptr rfl rfl | exact sub_sl rfl rfl rfl | exact sub_refl_val _ _ | exact sub_sb rfl | exact sub_sbl rfl | exact row_same rfl rfl rfl | exact row_ren rfl rfl rfl | exact sub_nil rfl | ((first | refine sub_int ?_ | refine sub_sl rfl rfl ?_ | refine sub_nil ?_ | refine virt_mk ?_ | show (_ : Nat) = _); first | with_reducible rfl | omega | ((try simp only [wS]); omega) | rfl) | apply row_app1 | apply row_app2 | apply row_app1r | refine cells_succ ?_ ?_ | exact cell0 | with_reducible rfl | (refine And.left (b := True) ⟨?_, True.intro⟩; assumption) | refine sub_int ?_ | refine sub_sb ?_ | refine sub_sbl ?_ | refine sub_sl rfl rfl ?_ | (apply row_lit rfl; (focus (refine cells_succ ?_ ?_))) | refine row_same rfl ?_ ?_ | refine row_ren rfl ?_ ?_))))); (any_goals (apply okIx_mk; rfl)))); (all_goals (try (first | omega | (simp only; omega)))))
    · have hN1 := hN1
      have hdb := doubtful_ok (rwA 2) w 4 70 (some 2) (some 24) (by decide) (by omega) (by omega)
      (repeat' (first
    | (intro Q h; refine h ?_; clear h Q)
    | (with_reducible refine bcase_true ?_)
    | (with_reducible refine bcase_false ?_)
    | (refine bcase_mk (fun hb => ?_) (fun hb => ?_) <;> (try simp only [nS, nT, eq_self, reduceCtorEq] at hb))
    | refine nil_mk (fun hz => ?_) ?_
    | refine draw_mk (by decide +kernel) ?_
    | refine seq_go ?_
    | refine And.intro (by first | omega | ((try simp only [wS]); omega) | rfl | decide) ?_
    | ((first | apply call_detx [some 1, some 4] (hdb) | apply calld_detx [some 1, some 4] (hdb)); (focus ((iterate 2 (all_goals (repeat' (first | exact sub_dead | exact nrA_same rfl rfl | exact subL_nil | exact trivial | (intro Q h; refine h ?_; clear h Q) | refine And.intro ?_ ?_ | refine subL_cons ?_ ?_ | refine sub_agg ?_ | refine sub_tup ?_ | refine sub_fn ?_ | refine sub_bfn ?_ ?_ | refine var_mk ?_ | refine rd_var ?_ rfl | refine rd_rd ?_ | exact sub_ptr rfl rfl | exact sub_sl rfl rfl rfl | exact sub_refl_val _ _ | exact sub_sb rfl | exact sub_sbl rfl | exact row_same rfl rfl rfl | exact row_ren rfl rfl rfl | exact sub_nil rfl | ((first | refine sub_int ?_ | refine sub_sl rfl rfl ?_ | refine sub_nil ?_ | refine virt_mk ?_ | show (_ : Nat) = _); first | with_reducible rfl | omega | ((try simp only [wS]); omega) | rfl) | apply row_app1 | apply row_app2 | apply row_app1r | refine cells_succ ?_ ?_ | exact cell0 | with_reducible rfl | (refine And.left (b := True) ⟨?_, True.intro⟩; assumption) | refine sub_int ?_ | refine sub_sb ?_ | refine sub_sbl ?_ | refine sub_sl rfl rfl ?_ | (apply row_lit rfl; (focus (refine cells_succ ?_ ?_))) | refine row_same rfl ?_ ?_ | refine row_ren rfl ?_ ?_)))); done)); (any_goals (first | (apply nodup_mk; rfl) | (apply nodup_mk2; rfl) | (apply nodup_mk3; rfl))))
    | omega))
      all_goals (try simp only [Nat.zero_add, Int.toNat_natCast] at *)
      · (apply next_sub (Subtype.mk (2 + 1) (by omega)); (focus (have hq := hN1 (by assumption); simp only [hq]; clear hq hY hN1 hN2 hp hdb; apply le_mk [some 0, some 1, some 2, some 3, some 4]; (focus (iterate 2 (all_goals (repeat' (first | exact sub_dead | exact nrA_same rfl rfl | exact subL_nil | exact trivial | (intro Q h; refine h ?_; clear h Q) | refine And.intro ?_ ?_ | refine subL_cons ?_ ?_ | refine sub_agg ?_ | refine sub_tup ?_ | refine sub_fn ?_ | refine sub_bfn ?_ ?_ | refine var_mk ?_ | refine rd_var ?_ rfl | refine rd_rd ?_ | exact sub_ptr rfl rfl | exact sub_sl rfl rfl rfl | exact sub_refl_val _ _ | exact sub_sb rfl | exact sub_sbl rfl | exact row_same rfl rfl rfl | exact row_ren rfl rfl rfl | exact sub_nil rfl | ((first | refine sub_int ?_ | refine sub_sl rfl rfl ?_ | refine sub_nil ?_ | refine virt_mk ?_ | show (_ : Nat) = _); first | with_reducible rfl | omega | ((try simp only [wS]); omega) | rfl) | apply row_app1 | apply row_app2 | apply row_app1r | refine cells_succ ?_ ?_ | exact cell0 | with_reducible rfl | (refine And.left (b := True) ⟨?_, True.intro⟩; assumption) | refine sub_int ?_ | refine sub_sb ?_ | refine sub_sbl ?_ | refine sub_sl rfl rfl ?_ | (apply row_lit rfl; (focus (refine cells_succ ?_ ?_))) | refine row_same rfl ?_ ?_ | refine row_ren rfl ?_ ?_))))); (any_goals (apply okIx_mk; rfl)))); (all_goals (try (first | omega | (simp only; omega)))))
      · (apply next_sub (Subtype.mk (2 + 1) (by omega)); (focus (have hq := hY (by assumption) (by assumption); simp only [hq]; clear hq hY hN1 hN2 hp hdb; apply le_mk [some 0, some 1, some 2, some 3, some 4]; (focus (iterate 2 (all_goals (repeat' (first | exact sub_dead | exact nrA_same rfl rfl | exact subL_nil | exact trivial | (intro Q h; refine h ?_; clear h Q) | refine And.intro ?_ ?_ | refine subL_cons ?_ ?_ | refine sub_agg ?_ | refine sub_tup ?_ | refine sub_fn ?_ | refine sub_bfn ?_ ?_ | refine var_mk ?_ | refine rd_var ?_ rfl | refine rd_rd ?_ | exact sub_ptr rfl rfl | exact sub_sl rfl rfl rfl | exact sub_refl_val _ _ | exact sub_sb rfl | exact sub_sbl rfl | exact row_same rfl rfl rfl | exact row_ren rfl rfl rfl | exact sub_nil rfl | ((first | refine sub_int ?_ | refine sub_sl rfl rfl ?_ | refine sub_nil ?_ | refine virt_mk ?_ | show (_ : Nat) = _); first | with_reducible rfl | omega | ((try simp only [wS]); omega) | rfl) | apply row_app1 | apply row_app2 | apply row_app1r | refine cells_succ ?_ ?_ | exact cell0 | with_reducible rfl | (refine And.left (b := True) ⟨?_, True.intro⟩; assumption) | refine sub_int ?_ | refine sub_sb ?_ | refine sub_sbl ?_ | refine sub_sl rfl rfl ?_ | (apply row_lit rfl; (focus (refine cells_succ ?_ ?_))) | refine row_same rfl ?_ ?_ | refine row_ren rfl ?_ ?_))))); (any_goals (apply okIx_mk; rfl)))); (all_goals (try (first | omega | (simp only; omega)))))
        all_goals (first | rfl | exact row_set (i := 2) (l := w) rfl rfl rfl rfl)
      · (apply next_sub (Subtype.mk (2 + 1) (by omega)); (focus (have hq := hN2 (by assumption); simp only [hq]; clear hq hY hN1 hN2 hp hdb; apply le_mk [some 0, some 1, some 2, some 3, some 4]; (focus (iterate 2 (all_goals (repeat' (first | exact sub_dead | exact nrA_same rfl rfl | exact subL_nil | exact trivial | (intro Q h; refine h ?_; clear h Q) | refine And.intro ?_ ?_ | refine subL_cons ?_ ?_ | refine sub_agg ?_ | refine sub_tup ?_ | refine sub_fn ?_ | refine sub_bfn ?_ ?_ | refine var_mk ?_ | refine rd_var ?_ rfl | refine rd_rd ?_ | exact sub_ptr rfl rfl | exact sub_sl rfl rfl rfl | exact sub_refl_val _ _ | exact sub_sb rfl | exact sub_sbl rfl | exact row_same rfl rfl rfl | exact row_ren rfl rfl rfl | exact sub_nil rfl | ((first | refine sub_int ?_ | refine sub_sl rfl rfl ?_ | refine sub_nil ?_ | refine virt_mk ?_ | show (_ : Nat) = _); first | with_reducible rfl | omega | ((try simp only [wS]); omega) | rfl) | apply row_app1 | apply row_app2 | apply row_app1r | refine cells_succ ?_ ?_ | exact cell0 | with_reducible rfl | (refine And.left (b := True) ⟨?_, True.intro⟩; assumption) | refine sub_int ?_ | refine sub_sb ?_ | refine sub_sbl ?_ | refine sub_sl rfl rfl ?_ | (apply row_lit rfl; (focus (refine cells_succ ?_ ?_))) | refine row_same rfl ?_ ?_ | refine row_ren rfl ?_ ?_))))); (any_goals (apply okIx_mk; rfl)))); (all_goals (try (first | omega | (simp only; omega)))))
    · have hN1 := hN1
      have hdb := doubtful_ok (rwA 3) w 4 70 (some 3) (some 24) (by decide) (by omega) (by omega)
      (repeat' (first
    | (intro Q h; refine h ?_; clear h Q)
    | (with_reducible refine bcase_true ?_)
    | (with_reducible refine bcase_false ?_)
    | (refine bcase_mk (fun hb => ?_) (fun hb => ?_) <;> (try simp only [nS, nT, eq_self, reduceCtorEq] at hb))
    | refine nil_mk (fun hz => ?_) ?_
    | refine draw_mk (by decide +kernel) ?_
    | refine seq_go ?_
    | refine And.intro (by first | omega | ((try simp only [wS]); omega) | rfl | decide) ?_
    | ((first | apply call_detx [some 2, some 4] (hdb) | apply calld_detx [some 2, some 4] (hdb)); (focus ((iterate 2 (all_goals (repeat' (first | exact sub_dead | exact nrA_same rfl rfl | exact subL_nil | exact trivial | (intro Q h; refine h ?_; clear h Q) | refine And.intro ?_ ?_ | refine subL_cons ?_ ?_ | refine sub_agg ?_ | refine sub_tup ?_ | refine sub_fn ?_ | refine sub_bfn ?_ ?_ | refine var_mk ?_ | refine rd_var ?_ rfl | refine rd_rd ?_ | exact sub_ptr rfl rfl | exact sub_sl rfl rfl rfl | exact sub_refl_val _ _ | exact sub_sb rfl | exact sub_sbl rfl | exact row_same rfl rfl rfl | exact row_ren rfl rfl rfl | exact sub_nil rfl | ((first | refine sub_int ?_ | refine sub_sl rfl rfl ?_ | refine sub_nil ?_ | refine virt_mk ?_ | show (_ : Nat) = _); first | with_reducible rfl | omega | ((try simp only [wS]); omega) | rfl) | apply row_app1 | apply row_app2 | apply row_app1r | refine cells_succ ?_ ?_ | exact cell0 | with_reducible rfl | (refine And.left (b := True) ⟨?_, True.intro⟩; assumption) | refine sub_int ?_ | refine sub_sb ?_ | refine sub_sbl ?_ | refine sub_sl rfl rfl ?_ | (apply row_lit rfl; (focus (refine cells_succ ?_ ?_))) | refine row_same rfl ?_ ?_ | refine row_ren rfl ?_ ?_)))); done)); (any_goals (first | (apply nodup_mk; rfl) | (apply nodup_mk2; rfl) | (apply nodup_mk3; rfl))))
    | omega))
      all_goals (try simp only [Nat.zero_add, Int.toNat_natCast] at *)
      · (apply next_sub (Subtype.mk (3 + 1) (by omega)); (focus (have hq := hN1 (by assumption); simp only [hq]; clear hq hY hN1 hN2 hp hdb; apply le_mk [some 0, some 1, some 2, some 3, some 4]; (focus (iterate 2 (all_goals (repeat' (first | exact sub_dead | exact nrA_same rfl rfl | exact subL_nil | exact trivial | (intro Q h; refine h ?_; clear h Q) | refine And.intro ?_ ?_ | refine subL_cons ?_ ?_ | refine sub_agg ?_ | refine sub_tup ?_ | refine sub_fn ?_ | refine sub_bfn ?_ ?_ | refine var_mk ?_ | refine rd_var ?_ rfl | refine rd_rd ?_ | exact sub_ptr rfl rfl | exact sub_sl rfl rfl rfl | exact sub_refl_val _ _ | exact sub_sb rfl | exact sub_sbl rfl | exact row_same rfl rfl rfl | exact row_ren rfl rfl rfl | exact sub_nil rfl | ((first | refine sub_int ?_ | refine sub_sl rfl rfl ?_ | refine sub_nil ?_ | refine virt_mk ?_ | show (_ : Nat) = _); first | with_reducible rfl | omega | ((try simp only [wS]); omega) | rfl) | apply row_app1 | apply row_app2 | apply row_app1r | refine cells_succ ?_ ?_ | exact cell0 | with_reducible rfl | (refine And.left (b := True) ⟨?_, True.intro⟩; assumption) | refine sub_int ?_ | refine sub_sb ?_ | refine sub_sbl ?_ | refine sub_sl rfl rfl ?_ | (apply row_lit rfl; (focus (refine cells_succ ?_ ?_))) | refine row_same rfl ?_ ?_ | refine row_ren rfl ?_ ?_))))); (any_goals (apply okIx_mk; rfl)))); (all_goals (try (first | omega | (simp only; omega)))))
      · (apply next_sub (Subtype.mk (3 + 1) (by omega)); (focus (have hq := hY (by assumption) (by assumption); simp only [hq]; clear hq hY hN1 hN2 hp hdb; apply le_mk [some 0, some 1, some 2, some 3, some 4]; (focus (iterate 2 (all_goals (repeat' (first | exact sub_dead | exact nrA_same rfl rfl | exact subL_nil | exact trivial | (intro Q h; refine h ?_; clear h Q) | refine And.intro ?_ ?_ | refine subL_cons ?_ ?_ | refine sub_agg ?_ | refine sub_tup ?_ | refine sub_fn ?_ | refine sub_bfn ?_ ?_ | refine var_mk ?_ | refine rd_var ?_ rfl | refine rd_rd ?_ | exact sub_ptr rfl rfl | exact sub_sl rfl rfl rfl | exact sub_refl_val _ _ | exact sub_sb rfl | exact sub_sbl rfl | exact row_same rfl rfl rfl | exact row_ren rfl rfl rfl | exact sub_nil rfl | ((first | refine sub_int ?_ | refine sub_sl rfl rfl ?_ | refine sub_nil ?_ | refine virt_mk ?_ | show (_ : Nat) = _); first | with_reducible rfl | omega | ((try simp only [wS]); omega) | rfl) | apply row_app1 | apply row_app2 | apply row_app1r | refine cells_succ ?_ ?_ | exact cell0 | with_reducible rfl | (refine And.left (b := True) ⟨?_, True.intro⟩; assumption) | refine sub_int ?_ | refine sub_sb ?_ | refine sub_sbl ?_ | refine sub_sl rfl rfl ?_ | (apply row_lit rfl; (focus (refine cells_succ ?_ ?_))) | refine row_same rfl ?_ ?_ | refine row_ren rfl ?_ ?_))))); (any_goals (apply okIx_mk; rfl)))); (all_goals (try (first | omega | (simp only; omega)))))
        all_goals (first | rfl | exact row_set (i := 3) (l := w) rfl rfl rfl rfl)
      · (apply next_sub (Subtype.mk (3 + 1) (by omega)); (focus (have hq := hN2 (by assumption); simp only [hq]; clear hq hY hN1 hN2 hp hdb; apply le_mk [some 0, some 1, some 2, some 3, some 4]; (focus (iterate 2 (all_goals (repeat' (first | exact sub_dead | exact nrA_same rfl rfl | exact subL_nil | exact trivial | (intro Q h; refine h ?_; clear h Q) | refine And.intro ?_ ?_ | refine subL_cons ?_ ?_ | refine sub_agg ?_ | refine sub_tup ?_ | refine sub_fn ?_ | refine sub_bfn ?_ ?_ | refine var_mk ?_ | refine rd_var ?_ rfl | refine rd_rd ?_ | exact sub_ptr rfl rfl | exact sub_sl rfl rfl rfl | exact sub_refl_val _ _ | exact sub_sb rfl | exact sub_sbl rfl | exact row_same rfl rfl rfl | exact row_ren rfl rfl rfl | exact sub_nil rfl | ((first | refine sub_int ?_ | refine sub_sl rfl rfl ?_ | refine sub_nil ?_ | refine virt_mk ?_ | show (_ : Nat) = _); first | with_reducible rfl | omega | ((try simp only [wS]); omega) | rfl) | apply row_app1 | apply row_app2 | apply row_app1r | refine cells_succ ?_ ?_ | exact cell0 | with_reducible rfl | (refine And.left (b := True) ⟨?_, True.intro⟩; assumption) | refine sub_int ?_ | refine sub_sb ?_ | refine sub_sbl ?_ | refine sub_sl rfl rfl ?_ | (apply row_lit rfl; (focus (refine cells_succ ?_ ?_))) | refine row_same rfl ?_ ?_ | refine row_ren rfl ?_ ?_))))); (any_goals (apply okIx_mk; rfl)))); (all_goals (try (first | omega | (simp only; omega)))))
end Go.Vx.L55

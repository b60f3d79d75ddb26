/- Lemmas of a small executor for the model, and contracts of functions, used for the law that this claim proves. No condition. -/
import Derived.Test.YtodbfpjjahpahaaGreatDoorCP17
import Derived.Test.YtodbfpjjahpahaaGreatDoorCP22
set_option linter.unusedSimpArgs false
set_option linter.unusedVariables false
set_option maxRecDepth 100000
namespace Go.Vx.L58
open Go Go.Proofs
theorem rows_pt {ρ : Nat → Option Nat} {rw rw' : Bool} {e n n' : Nat} {hd hd' : Nat → Value} {r r' : Nat → Nat × (Nat → Nat → Int)} (h1 : (!rw || rw') = true) (hn : n' = n) (hh : ∀ i, i < n → hd i = hd' i)
    (hr : ∀ i, i < n → (r i).1 = (r' i).1 ∧ ∀ x, x < (r i).1 → ∀ j, j < e → (r i).2 x j = (r' i).2 x j) : BSub ρ (.rows rw e n hd r) (.rows rw' e n' hd' r') := by
  subst hn
  exact ⟨rw', _, _, _, rfl, fun h => rw_imp h1 h, fun i hi => ⟨i, hi, hh i hi, (hr i hi).1, (hr i hi).2⟩⟩
/-- The clocks without frequency errors. -/
def flO (os : List Osc) : List Osc := os.map fun o => ⟨o.ph, [⟨0, 0⟩]⟩
theorem flO_len (os : List Osc) : (flO os).length = os.length := List.length_map ..
theorem flO_get (os : List Osc) {i : Nat} (h : i < os.length) : (flO os).getD i os0 = ⟨(os.getD i os0).ph, [⟨0, 0⟩]⟩ := by
  unfold flO
  rw [List.getD_eq_getElem?_getD, List.getElem?_map, List.getD_eq_getElem?_getD, List.getElem?_eq_getElem h]; rfl
def hdX (hd : Nat → Value) (n : Nat) (h : Value) : Nat → Value := fun i => bif Nat.blt i n then hd i else h
abbrev flS (s : Scn) (hd : Nat → Value) (up : List Int) (c : Option Nat) : Scn := ⟨s.n, s.l, s.c0, s.ns, s.c1, flO s.os, none, hd, s.dn, s.c3, up, c, s.tr, s.c5, s.st, s.c6⟩
theorem flS_flat (s : Scn) (hd : Nat → Value) (up : List Int) (c : Option Nat) : Flat (flS s hd up c) := fun x hx => by
  have hx' : x < s.os.length := by rw [← flO_len]; exact hx
  show ((flO s.os).getD x os0).sg = _
  rw [flO_get _ hx']
/-- The cells of a scene without frequency errors. -/
abbrev flV (s : Scn) (u : Nat) (up : List Int) (c : Option Nat) : List AV := [.val (.int .i64 s.n), .sl 0 4 0 s.l.length s.c0, .sl 1 6 0 s.ns.length s.c1, .sl 8 2 0 s.os.length none, .sl 4 1 0 s.dn.length s.c3, .sl u 1 0 up.length c, .sl 6 1 0 s.tr.length s.c5, .sl 7 1 0 s.st.length s.c6]
abbrev twF (a b : List AV) : Nat → Nat → AV := fun i j => match i with
  | 0 => nth a j
  | _ => nth b j
theorem os_app {ρ : Nat → Option Nat} {FL : List Osc} {hd : Nat → Value} {h : Value} {k y y' y2 t' : Nat} {p : Int} (hp : (FL.getD k os0).ph = p) (hs : (FL.getD k os0).sg.length = 1) :
    BSub ρ (.arr true 45 2 (k + 1) (osF y FL (hdX hd k h))) (.arr true 45 2 (k + 1) (appF k (osF y' FL hd) fun i j => (fun i j => [AV.val (.int .i64 p), .rsl y2 t' 2 1 h].getD (i * 2 + j) .dead) (0 + i) j)) := by
  refine bsub_arr (fun _ => rfl) rfl fun i hi j hj => ?_
  have hj' : j = 0 ∨ j = 1 := by omega
  by_cases e : i < k
  · rw [appF_lt e]
    rcases hj' with rfl | rfl
    · exact sub_refl_val _ _
    · exact sub_rsl rfl (by unfold hdX; rw [show Nat.blt i k = true from Nat.ble_eq_true_of_le e]; rfl)
  · obtain rfl : i = k := by omega
    rw [appF_ge (Nat.le_refl _), Nat.sub_self]
    rcases hj' with rfl | rfl
    · show sub ρ (.val (.int .i64 (FL.getD i os0).ph)) (.val (.int .i64 p))
      rw [hp]; exact sub_refl_val _ _
    · show sub ρ (.rsl y i 2 (FL.getD i os0).sg.length (hdX hd i h i)) (.rsl y2 t' 2 1 h)
      refine sub_rsl hs.symm ?_
      unfold hdX
      rw [show Nat.blt i i = false from by cases hb : Nat.blt i i with | false => rfl | true => exact absurd (Nat.le_of_ble_eq_true hb) (by omega)]; rfl
theorem rows_app {ρ : Nat → Option Nat} {FL : List Osc} {hd : Nat → Value} {h : Value} {k : Nat} (hs : (FL.getD k os0).sg = [⟨0, 0⟩]) :
    BSub ρ (.rows true 2 (k + 1) (hdX hd k h) (sgR FL)) (.rows true 2 (k + 1) (fun i => bif Nat.blt i k then hd i else (fun _ => h) (i - k)) (fun i => bif Nat.blt i k then sgR FL i else (fun _ => (1, fun x j => [(0 : Int), 0].getD (x * 2 + j) 0)) (i - k))) := by
  refine rows_pt rfl rfl (fun i _ => rfl) fun i hi => ?_
  by_cases e : i < k
  · rw [show Nat.blt i k = true from Nat.ble_eq_true_of_le e]
    exact ⟨rfl, fun _ _ _ _ => rfl⟩
  · obtain rfl : i = k := by omega
    rw [show Nat.blt i i = false from by cases hb : Nat.blt i i with | false => rfl | true => exact absurd (Nat.le_of_ble_eq_true hb) (by omega)]
    unfold sgR
    rw [hs]
    refine ⟨rfl, fun x hx j hj => ?_⟩
    have h2 : x = 0 := by
      have : x < 1 := hx
      omega
    have h3 : j = 0 ∨ j = 1 := by omega
    subst h2
    rcases h3 with rfl | rfl <;> rfl
theorem tw_same {ρ : Nat → Option Nat} {s : Scn} {u u' : Nat} {up up' : List Int} {c c' : Option Nat} (h : (∀ i, i < 9 → ρ i = some i)) (hu : u < 9 := by decide) (hu' : u' < 9 := by decide) :
    BSub ρ (.arr true 32 8 2 (twF (flV s u up c) (flV s u' up' c'))) (.arr true 32 8 2 (twF (flV s u up c) (flV s u' up' c'))) := by
  refine bsub_arr (fun _ => rfl) rfl (cells_succ ?_ (cells_succ ?_ cell0)) <;> (repeat' (first | exact cell0 | refine cells_succ ?_ ?_)) <;> first | exact sub_refl_val _ _ | exact sub_sl (h _ (by omega)) rfl rfl
/-- What a run on a scene says, and the errors. -/
theorem run_or (f : Scn) (ok : SOk f) (t : Int) :
    (∃ e : Int, e ≠ 0 ∧ Runs Tryz.prog 10 [scA f, .val (.int .i64 t)] (scB f) (Det (.tup [.val (.slice none 0 0), .val (.int .i64 e)]) (scB f))) ∨
    ((ckS f = 0 ∧ 0 ≤ t ∧ t ≤ 562949953421312) ∧ Runs Tryz.prog 10 [scA f, .val (.int .i64 t)] (scB f) (Det (.tup [.sl 8 6 0 f.ns.length none, .val (.int .i64 0)]) [gB f.l, ndB f.ns, osB f.os f.hd, osR f.os f.hd, iB false f.dn, iB false f.up, blB f.tr, iB false f.st, .arr true 41 6 f.ns.length (rowF gpC gp0 (rnL f t))]) ∧
      ∀ v : Nat, v < f.ns.length → Runs Tryz.prog 14 [scA f, .val (.int .i64 v), .val (.int .i64 t)] (scB f) (Det (.tup [.val (.int .i64 (erS f v)), .val (.int .i64 0)]) (scB f))) := by
  obtain ⟨r1, r2, r3⟩ := run_ok' f ok t
  by_cases hc : ckS f = 0
  · by_cases ht : 0 ≤ t ∧ t ≤ 562949953421312
    · exact .inr ⟨⟨hc, ht⟩, r3 hc ht, fun v hv => (error_ok f ok v t).2.2 hc ⟨by omega, by omega, ht⟩⟩
    · exact .inl ⟨3, by omega, r2 hc ht⟩
  · exact .inl ⟨_, hc, r1 hc⟩
/-- What is measured without frequency errors. -/
theorem fl_facts {f : Scn} (ok : SOk f) (hf : Flat f) {t : Int} (h : ckS f = 0 ∧ 0 ≤ t ∧ t ≤ 562949953421312) {x : Nat} (hx : x < f.ns.length) :
    ((rnL f t).getD x gp0).node = x ∧ ((rnL f t).getD x gp0).known = decide (0 ≤ ((rnL f t).getD x gp0).master) ∧ ((rnL f t).getD x gp0).measured - ((rnL f t).getD x gp0).actual = erS f x ∧
      IntKind.i64.wrap (((rnL f t).getD x gp0).measured - ((rnL f t).getD x gp0).actual) = erS f x := by
  obtain ⟨hc, ht⟩ := h
  have h1 := rnL_lt ok hc t hx
  have h2 := rnL_flat ok hc hf ht hx
  have h3 := rnL_bd ok hc ht hx
  refine ⟨h1.2, h1.1, h2, ?_⟩
  rw [IntKind.wrap_i64]; omega
set_option maxHeartbeats 16000000 in
theorem ptpsimExact (s : Scn) (ok : SOk s) (t : Int) : Runs Tryz.prog 5 [scA s, .val (.int .i64 t)] (scB s) (Det (.sb true) (scB s)) := by
  have hmx : maxLen = 9223372036854775807 := by decide
  have hn := ok.hn
  have haw := awake_ok
  have hfw := few_ok s
  cases hf0 : fewB s
  · rw [hf0] at hfw
    refine Runs.mk tabOK Tryz.call5 Tryz.func5 rfl Tryz.ntmps5 Tryz.results5 rfl ?_
    (repeat' (first
    | (intro Q h; refine h ?_; clear h Q)
    | (refine bcase_mk (fun hb => ?_) (fun hb => ?_) <;> (try simp only [nS, nT, eq_self, reduceCtorEq] at hb) <;> (try (exfalso; fail; done)))
    | refine seq_go ?_
    | ((first | apply call_detx [some 0, some 1, some 2, some 3, some 4, some 5, some 6, some 7] (hfw) ); (focus ((iterate 2 (all_goals (repeat' (first | exact rows_same rfl rfl rfl rfl | exact os_same rfl rfl rfl rfl | exact subL_nil | exact trivial | (intro Q h; refine h ?_; clear h Q) | refine And.intro ?_ ?_ | refine subL_cons ?_ ?_ | refine sub_agg ?_ | exact sub_sl rfl rfl rfl | exact sub_refl_val _ _ | exact row_same rfl rfl rfl )))); done)); (any_goals (first | (apply nodup_mk; rfl) )))
    | ((first | apply call0 (haw) ); (focus (iterate 2 (all_goals (repeat' (first | exact subL_nil ))))))
    | (apply ret_mk [some 0, some 1, some 2, some 3, some 4, some 5, some 6, some 7]; (focus (iterate 2 (all_goals (repeat' (first | exact rows_same rfl rfl rfl rfl | exact os_same rfl rfl rfl rfl | exact trivial | (intro Q h; refine h ?_; clear h Q) | refine And.intro ?_ ?_ | exact sub_sb rfl | exact row_same rfl rfl rfl ))))); (any_goals (apply okIx_mk; rfl)))
    ))
  rw [hf0] at hfw
  have hfl := flO_len s.os
  have hfg := fun i => flO_get s.os (i := i)
  have hol : s.os.length ≤ 100 := by
    unfold fewB at hf0; simp only [Bool.and_eq_true, decide_eq_true_eq] at hf0; omega
  refine Runs.mk tabOK Tryz.call5 Tryz.func5 rfl Tryz.ntmps5 Tryz.results5 rfl ?_
  (repeat' (first
    | (intro Q h; refine h ?_; clear h Q)
    | (refine bcase_mk (fun hb => ?_) (fun hb => ?_) <;> (try simp only [nS, nT, eq_self, reduceCtorEq] at hb) <;> (try (exfalso; fail; done)))
    | refine seq_go ?_
    | ((first | apply call_detx [some 0, some 1, some 2, some 3, some 4, some 5, some 6, some 7] (hfw) ); (focus ((iterate 2 (all_goals (repeat' (first | exact rows_same rfl rfl rfl rfl | exact os_same rfl rfl rfl rfl | exact subL_nil | exact trivial | (intro Q h; refine h ?_; clear h Q) | refine And.intro ?_ ?_ | refine subL_cons ?_ ?_ | refine sub_agg ?_ | exact sub_sl rfl rfl rfl | exact sub_refl_val _ _ | exact row_same rfl rfl rfl )))); done)); (any_goals (first | (apply nodup_mk; rfl) )))
    ))
  refine loop_inv (σ := Nat × (Nat → Value)) (fun x => x.1 ≤ s.os.length) (fun x => ⟨[(1, .val (.int .i64 t)), (2, .ptr 8 8 0 0), (5, .ptr 9 8 0 0), (28, .sl 2 2 0 s.os.length s.c2), (29, .val (.int .i64 s.os.length)), (30, .val (.int .i64 x.1))], [gB s.l, ndB s.ns, osB s.os s.hd, osR s.os s.hd, iB false s.dn, iB false s.up, blB s.tr, iB false s.st, .var (scV s), .var [.val (.int .i64 s.n), .sl 0 4 0 s.l.length s.c0, .sl 1 6 0 s.ns.length s.c1, .sl 10 2 0 x.1 none, .sl 4 1 0 s.dn.length s.c3, .sl 5 1 0 s.up.length s.c4, .sl 6 1 0 s.tr.length s.c5, .sl 7 1 0 s.st.length s.c6], .arr true 45 2 x.1 (osF 11 (flO s.os) x.2), .rows true 2 x.1 x.2 (sgR (flO s.os))]⟩) (fun x => s.os.length - x.1) ((0, fun _ => .bool false)) ?_ ?_ ?_
  · omega
  · (apply le_mk [some 0, some 1, some 2, some 3, some 4, some 5, some 6, some 7, some 8, some 9, none, none]; (focus (iterate 2 (all_goals (repeat' (first | exact rows_same rfl rfl rfl rfl | exact os_same rfl rfl rfl rfl | exact subL_nil | exact trivial | (intro Q h; refine h ?_; clear h Q) | refine And.intro ?_ ?_ | refine subL_cons ?_ ?_ | refine var_mk ?_ | exact sub_ptr rfl rfl | exact sub_sl rfl rfl rfl | exact sub_refl_val _ _ | exact row_same rfl rfl rfl | exact sub_nil rfl | ((first | refine virt_mk ?_ | show (_ : Nat) = _); first | with_reducible rfl | omega | ((try simp only [wS]); omega) | rfl) ))))); (any_goals (apply okIx_mk; rfl)))
  rintro ⟨k, hd⟩ hk
  simp only at hk ⊢
  by_cases hkl : k < s.os.length
  · have hz : 0 + Int.toNat (k : Int) = k := by omega
    have hfk := hfg k hkl
    (repeat' (first
    | (intro Q h; refine h ?_; clear h Q)
    | (refine bcase_mk (fun hb => ?_) (fun hb => ?_) <;> (try simp only [nS, nT, eq_self, reduceCtorEq] at hb) <;> (try (exfalso; (first | omega ); done)))
    | (intro (hV : Value))
    | refine seq_go ?_
    | refine And.intro (by first | omega | ((try simp only [wS]); omega) | rfl | decide) ?_
    | (apply next_sub (Subtype.mk (k + 1, hdX hd k hV) _); (focus (apply leg_mk [.join 11 13] [some 0, some 1, some 2, some 3, some 4, some 5, some 6, some 7, some 8, some 9, some 15, some 13]; (focus (iterate 3 (all_goals (repeat' (first | exact rows_same rfl rfl rfl rfl | exact os_same rfl rfl rfl rfl | exact subL_nil | exact trivial | (intro Q h; refine h ?_; clear h Q) | refine And.intro ?_ ?_ | refine subL_cons ?_ ?_ | refine var_mk ?_ | exact sub_ptr rfl rfl | exact sub_sl rfl rfl rfl | exact sub_refl_val _ _ | exact row_same rfl rfl rfl | ((first | refine sub_int ?_ ); first | with_reducible rfl | omega | ((try simp only [wS]); omega) | rfl) ))))); (any_goals (apply okIx_mk; rfl)))); (all_goals (try (first | omega | (simp only; omega)))))
    ))
    · exact os_app (p := (s.os.getD (0 + Int.toNat (k : Int)) os0).ph) (by rw [hz, hfk]) (by rw [hfk]; rfl)
    · exact rows_app (by rw [hfk])
  obtain rfl : k = s.os.length := by omega
  clear hk hkl
  have okf : ∀ hd up c, SOk (flS s hd up c) := fun hd up c => ⟨ok.hl, ok.hn, ok.hw⟩
  have R1 := run_or (flS s hd s.up s.c4) (okf _ _ _) t
  have R2 := run_or (flS s hd s.dn s.c3) (okf _ _ _) t
  have F1 := fun h x hx => fl_facts (f := flS s hd s.up s.c4) (okf _ _ _) (flS_flat _ _ _ _) (t := t) h (x := x) hx
  have F2 := fun h x hx => fl_facts (f := flS s hd s.dn s.c3) (okf _ _ _) (flS_flat _ _ _ _) (t := t) h (x := x) hx
  have E2 := fun x => erS_eq (s := flS s hd s.dn s.c3) rfl x
  have hl1 : (flS s hd s.up s.c4).os.length = s.os.length := hfl
  have hl2 : (flS s hd s.dn s.c3).os.length = s.os.length := hfl
  unfold scB osB osR at R1 R2
  simp only [hfl] at R1 R2
  (repeat' (first
    | (intro Q h; refine h ?_; clear h Q)
    | (refine bcase_mk (fun hb => ?_) (fun hb => ?_) <;> (try simp only [nS, nT, eq_self, reduceCtorEq] at hb) <;> (try (exfalso; (first | omega ); done)))
    | refine seq_go ?_
    ))
  refine loop_inv (σ := Nat) (fun x => x ≤ 2) (fun x => ⟨[(1, .val (.int .i64 t)), (8, .ptr 10 8 0 0), (51, .sl 11 8 0 2 (some 2)), (52, .val (.int .i64 2)), (53, .val (.int .i64 x))], [gB s.l, ndB s.ns, osB s.os s.hd, osR s.os s.hd, iB false s.dn, iB false s.up, blB s.tr, iB false s.st, .arr true 45 2 s.os.length (osF 9 (flO s.os) hd), .rows true 2 s.os.length hd (sgR (flO s.os)), .var (flV s 4 s.dn s.c3), .arr true 32 8 2 (twF (flV s 5 s.up s.c4) (flV s 4 s.dn s.c3))]⟩) (fun x => 2 - x) (0) ?_ ?_ ?_
  · omega
  · (apply le_mk [some 0, some 1, some 2, some 3, some 4, some 5, some 6, some 7, some 10, some 11, some 12, some 13]; (focus (iterate 2 (all_goals (repeat' (first | exact rows_same rfl rfl rfl rfl | exact os_same rfl rfl rfl rfl | exact subL_nil | exact trivial | (intro Q h; refine h ?_; clear h Q) | refine And.intro ?_ ?_ | refine subL_cons ?_ ?_ | refine var_mk ?_ | exact sub_ptr rfl rfl | exact sub_sl rfl rfl rfl | exact sub_refl_val _ _ | exact row_same rfl rfl rfl ))))); (any_goals (apply okIx_mk; rfl)))
    all_goals (refine bsub_arr (fun _ => rfl) rfl (cells_succ ?_ (cells_succ ?_ cell0)) <;> (repeat' (first | exact cell0 | refine cells_succ ?_ ?_)) <;> first | exact sub_refl_val _ _ | exact sub_sl rfl rfl rfl | fail)
  rintro k hk
  rcases (by omega : k = 0 ∨ k = 1 ∨ k = 2) with rfl | rfl | rfl
  · rcases R1 with ⟨e, he0, r⟩ | ⟨hcc, r, he⟩
    · (repeat' (first
    | (intro Q h; refine h ?_; clear h Q)
    | (refine bcase_mk (fun hb => ?_) (fun hb => ?_) <;> (try simp only [nS, nT, eq_self, reduceCtorEq] at hb) <;> (try (exfalso; (first | omega ); done)))
    | refine seq_go ?_
    | refine And.intro (by first | omega | ((try simp only [wS]); omega) | rfl | decide) ?_
    | ((first | apply call_detx [some 0, some 1, some 8, some 9, some 4, some 5, some 6, some 7] (r) ); (focus ((iterate 2 (all_goals (repeat' (first | exact rows_same rfl rfl rfl rfl | exact os_same rfl rfl rfl rfl | exact subL_nil | exact trivial | (intro Q h; refine h ?_; clear h Q) | refine And.intro ?_ ?_ | refine subL_cons ?_ ?_ | refine sub_agg ?_ | exact sub_sl rfl rfl rfl | exact sub_refl_val _ _ | exact row_same rfl rfl rfl | ((first | refine sub_sl rfl rfl ?_ ); first | with_reducible rfl | omega | ((try simp only [wS]); omega) | rfl) )))); done)); (any_goals (first | (apply nodup_mk; rfl) )))
    | (apply next_sub (Subtype.mk (0 + 1) _); (focus (apply le_mk [some 0, some 1, some 2, some 3, some 4, some 5, some 6, some 7, some 8, some 9, some 10, some 11]; (focus (iterate 2 (all_goals (repeat' (first | exact rows_same rfl rfl rfl rfl | exact os_same rfl rfl rfl rfl | exact tw_same (by decide) | exact subL_nil | exact trivial | (intro Q h; refine h ?_; clear h Q) | refine And.intro ?_ ?_ | refine subL_cons ?_ ?_ | refine var_mk ?_ | exact sub_ptr rfl rfl | exact sub_sl rfl rfl rfl | exact sub_refl_val _ _ | exact row_same rfl rfl rfl ))))); (any_goals (apply okIx_mk; rfl)))); (all_goals (try (first | omega | (simp only; omega)))))
    ))
    · have hfa := fun x hx => F1 hcc x hx
      generalize rnL (flS s hd s.up s.c4) t = L at *
      generalize erS (flS s hd s.up s.c4) = E at *
      (repeat' (first
    | (intro Q h; refine h ?_; clear h Q)
    | (refine bcase_mk (fun hb => ?_) (fun hb => ?_) <;> (try simp only [nS, nT, eq_self, reduceCtorEq] at hb) <;> (try (exfalso; (first | omega ); done)))
    | refine seq_go ?_
    | refine And.intro (by first | omega | ((try simp only [wS]); omega) | rfl | decide) ?_
    | ((first | apply call_detx [some 0, some 1, some 8, some 9, some 4, some 5, some 6, some 7] (r) ); (focus ((iterate 2 (all_goals (repeat' (first | exact rows_same rfl rfl rfl rfl | exact os_same rfl rfl rfl rfl | exact subL_nil | exact trivial | (intro Q h; refine h ?_; clear h Q) | refine And.intro ?_ ?_ | refine subL_cons ?_ ?_ | refine sub_agg ?_ | exact sub_sl rfl rfl rfl | exact sub_refl_val _ _ | exact row_same rfl rfl rfl | ((first | refine sub_sl rfl rfl ?_ ); first | with_reducible rfl | omega | ((try simp only [wS]); omega) | rfl) )))); done)); (any_goals (first | (apply nodup_mk; rfl) )))
    ))
      refine loop_inv (σ := Nat) (fun x => x ≤ s.ns.length) (fun x => ⟨[(1, .val (.int .i64 t)), (8, .ptr 10 8 0 0), (10, .ptr 12 8 0 0), (51, .sl 11 8 0 2 (some 2)), (52, .val (.int .i64 2)), (53, .val (.int .i64 0)), (65, .sl 13 6 0 s.ns.length none), (66, .val (.int .i64 s.ns.length)), (67, .val (.int .i64 x))], [gB s.l, ndB s.ns, osB s.os s.hd, osR s.os s.hd, iB false s.dn, iB false s.up, blB s.tr, iB false s.st, .arr true 45 2 s.os.length (osF 9 (flO s.os) hd), .rows true 2 s.os.length hd (sgR (flO s.os)), .var (flV s 4 s.dn s.c3), .arr true 32 8 2 (twF (flV s 5 s.up s.c4) (flV s 4 s.dn s.c3)), .var (flV s 5 s.up s.c4), .arr true 41 6 s.ns.length (rowF gpC gp0 L)]⟩) (fun x => s.ns.length - x) (0) ?_ ?_ ?_
      · omega
      · (apply le_mk [some 0, some 1, some 2, some 3, some 4, some 5, some 6, some 7, some 8, some 9, some 10, some 11, some _, some _]; (focus (iterate 2 (all_goals (repeat' (first | exact rows_same rfl rfl rfl rfl | exact os_same rfl rfl rfl rfl | exact tw_same (by decide) | exact subL_nil | exact trivial | (intro Q h; refine h ?_; clear h Q) | refine And.intro ?_ ?_ | refine subL_cons ?_ ?_ | refine var_mk ?_ | exact sub_ptr rfl rfl | exact sub_sl rfl rfl rfl | exact sub_refl_val _ _ | exact row_same rfl rfl rfl | exact row_ren rfl rfl rfl ))))); (any_goals (apply okIx_mk; rfl)))
      rintro x hx
      by_cases hxl : x < s.ns.length
      · have hz : 0 + Int.toNat (x : Int) = x := by omega
        obtain ⟨f1n, f2k, f3, f4⟩ := hfa x hxl
        have he := he x hxl
        have f2k : (L.getD (0 + Int.toNat (x : Int)) gp0).known = decide ((L.getD (0 + Int.toNat (x : Int)) gp0).master ≥ 0) := by rw [hz]; exact f2k
        have f4 : IntKind.i64.wrap ((L.getD (0 + Int.toNat (x : Int)) gp0).measured - (L.getD (0 + Int.toNat (x : Int)) gp0).actual) = E x := by rw [hz]; exact f4
        have f1n : (L.getD (0 + Int.toNat (x : Int)) gp0).node = (x : Int) := by rw [hz]; exact f1n
        (repeat' (first
    | (intro Q h; refine h ?_; clear h Q)
    | (refine bcase_mk (fun hb => ?_) (fun hb => ?_) <;> (try simp only [nS, nT, eq_self, reduceCtorEq] at hb) <;> (try (exfalso; (first | omega | exact hb f2k ); done)))
    | refine seq_go ?_
    | refine And.intro (by first | omega | ((try simp only [wS]); omega) | rfl | decide) ?_
    | ((first | apply call_detx [some 0, some 1, some 8, some 9, some 4, some 5, some 6, some 7] (he) ); (focus ((iterate 2 (all_goals (repeat' (first | exact rows_same rfl rfl rfl rfl | exact os_same rfl rfl rfl rfl | exact subL_nil | exact trivial | (intro Q h; refine h ?_; clear h Q) | refine And.intro ?_ ?_ | refine subL_cons ?_ ?_ | refine sub_agg ?_ | exact sub_sl rfl rfl rfl | exact sub_refl_val _ _ | exact row_same rfl rfl rfl | ((first | refine sub_sl rfl rfl ?_ ); first | with_reducible rfl | omega | ((try simp only [wS]); omega) | rfl) )))); done)); (any_goals (first | (apply nodup_mk; rfl) )))
    | (apply next_sub (Subtype.mk (x + 1) _); (focus (apply le_mk [some 0, some 1, some 2, some 3, some 4, some 5, some 6, some 7, some 8, some 9, some 10, some 11, some 12, some 13]; (focus (iterate 2 (all_goals (repeat' (first | exact rows_same rfl rfl rfl rfl | exact os_same rfl rfl rfl rfl | exact tw_same (by decide) | exact subL_nil | exact trivial | (intro Q h; refine h ?_; clear h Q) | refine And.intro ?_ ?_ | refine subL_cons ?_ ?_ | refine var_mk ?_ | exact sub_ptr rfl rfl | exact sub_sl rfl rfl rfl | exact sub_refl_val _ _ | exact row_same rfl rfl rfl | ((first | refine sub_int ?_ ); first | with_reducible rfl | omega | ((try simp only [wS]); omega) | rfl) ))))); (any_goals (apply okIx_mk; rfl)))); (all_goals (try (first | omega | (simp only; omega)))))
    ))
      · (repeat' (first
    | (intro Q h; refine h ?_; clear h Q)
    | (refine bcase_mk (fun hb => ?_) (fun hb => ?_) <;> (try simp only [nS, nT, eq_self, reduceCtorEq] at hb) <;> (try (exfalso; (first | omega ); done)))
    | (apply next_sub (Subtype.mk (0 + 1) _); (focus (apply le_mk [some 0, some 1, some 2, some 3, some 4, some 5, some 6, some 7, some 8, some 9, some 10, some 11]; (focus (iterate 2 (all_goals (repeat' (first | exact rows_same rfl rfl rfl rfl | exact os_same rfl rfl rfl rfl | exact tw_same (by decide) | exact subL_nil | exact trivial | (intro Q h; refine h ?_; clear h Q) | refine And.intro ?_ ?_ | refine subL_cons ?_ ?_ | refine var_mk ?_ | exact sub_ptr rfl rfl | exact sub_sl rfl rfl rfl | exact sub_refl_val _ _ | exact row_same rfl rfl rfl ))))); (any_goals (apply okIx_mk; rfl)))); (all_goals (try (first | omega | (simp only; omega)))))
    ))
  · rcases R2 with ⟨e, he0, r⟩ | ⟨hcc, r, he⟩
    · (repeat' (first
    | (intro Q h; refine h ?_; clear h Q)
    | (refine bcase_mk (fun hb => ?_) (fun hb => ?_) <;> (try simp only [nS, nT, eq_self, reduceCtorEq] at hb) <;> (try (exfalso; (first | omega ); done)))
    | refine seq_go ?_
    | refine And.intro (by first | omega | ((try simp only [wS]); omega) | rfl | decide) ?_
    | ((first | apply call_detx [some 0, some 1, some 8, some 9, some 4, some 4, some 6, some 7] (r) ); (focus ((iterate 2 (all_goals (repeat' (first | exact rows_same rfl rfl rfl rfl | exact os_same rfl rfl rfl rfl | exact subL_nil | exact trivial | (intro Q h; refine h ?_; clear h Q) | refine And.intro ?_ ?_ | refine subL_cons ?_ ?_ | refine sub_agg ?_ | exact sub_sl rfl rfl rfl | exact sub_refl_val _ _ | exact row_same rfl rfl rfl | ((first | refine sub_sl rfl rfl ?_ ); first | with_reducible rfl | omega | ((try simp only [wS]); omega) | rfl) )))); done)); (any_goals (first | (apply nodup_mk; rfl) )))
    | (apply next_sub (Subtype.mk (1 + 1) _); (focus (apply le_mk [some 0, some 1, some 2, some 3, some 4, some 5, some 6, some 7, some 8, some 9, some 10, some 11]; (focus (iterate 2 (all_goals (repeat' (first | exact rows_same rfl rfl rfl rfl | exact os_same rfl rfl rfl rfl | exact tw_same (by decide) | exact subL_nil | exact trivial | (intro Q h; refine h ?_; clear h Q) | refine And.intro ?_ ?_ | refine subL_cons ?_ ?_ | refine var_mk ?_ | exact sub_ptr rfl rfl | exact sub_sl rfl rfl rfl | exact sub_refl_val _ _ | exact row_same rfl rfl rfl ))))); (any_goals (apply okIx_mk; rfl)))); (all_goals (try (first | omega | (simp only; omega)))))
    ))
    · have hfa := fun x hx => F2 hcc x hx
      generalize rnL (flS s hd s.dn s.c3) t = L at *
      generalize erS (flS s hd s.dn s.c3) = E at *
      (repeat' (first
    | (intro Q h; refine h ?_; clear h Q)
    | (refine bcase_mk (fun hb => ?_) (fun hb => ?_) <;> (try simp only [nS, nT, eq_self, reduceCtorEq] at hb) <;> (try (exfalso; (first | omega ); done)))
    | refine seq_go ?_
    | refine And.intro (by first | omega | ((try simp only [wS]); omega) | rfl | decide) ?_
    | ((first | apply call_detx [some 0, some 1, some 8, some 9, some 4, some 4, some 6, some 7] (r) ); (focus ((iterate 2 (all_goals (repeat' (first | exact rows_same rfl rfl rfl rfl | exact os_same rfl rfl rfl rfl | exact subL_nil | exact trivial | (intro Q h; refine h ?_; clear h Q) | refine And.intro ?_ ?_ | refine subL_cons ?_ ?_ | refine sub_agg ?_ | exact sub_sl rfl rfl rfl | exact sub_refl_val _ _ | exact row_same rfl rfl rfl | ((first | refine sub_sl rfl rfl ?_ ); first | with_reducible rfl | omega | ((try simp only [wS]); omega) | rfl) )))); done)); (any_goals (first | (apply nodup_mk; rfl) )))
    ))
      refine loop_inv (σ := Nat) (fun x => x ≤ s.ns.length) (fun x => ⟨[(1, .val (.int .i64 t)), (8, .ptr 10 8 0 0), (10, .ptr 12 8 0 0), (51, .sl 11 8 0 2 (some 2)), (52, .val (.int .i64 2)), (53, .val (.int .i64 1)), (65, .sl 13 6 0 s.ns.length none), (66, .val (.int .i64 s.ns.length)), (67, .val (.int .i64 x))], [gB s.l, ndB s.ns, osB s.os s.hd, osR s.os s.hd, iB false s.dn, iB false s.up, blB s.tr, iB false s.st, .arr true 45 2 s.os.length (osF 9 (flO s.os) hd), .rows true 2 s.os.length hd (sgR (flO s.os)), .var (flV s 4 s.dn s.c3), .arr true 32 8 2 (twF (flV s 5 s.up s.c4) (flV s 4 s.dn s.c3)), .var (flV s 4 s.dn s.c3), .arr true 41 6 s.ns.length (rowF gpC gp0 L)]⟩) (fun x => s.ns.length - x) (0) ?_ ?_ ?_
      · omega
      · (apply le_mk [some 0, some 1, some 2, some 3, some 4, some 5, some 6, some 7, some 8, some 9, some 10, some 11, some _, some _]; (focus (iterate 2 (all_goals (repeat' (first | exact rows_same rfl rfl rfl rfl | exact os_same rfl rfl rfl rfl | exact tw_same (by decide) | exact subL_nil | exact trivial | (intro Q h; refine h ?_; clear h Q) | refine And.intro ?_ ?_ | refine subL_cons ?_ ?_ | refine var_mk ?_ | exact sub_ptr rfl rfl | exact sub_sl rfl rfl rfl | exact sub_refl_val _ _ | exact row_same rfl rfl rfl | exact row_ren rfl rfl rfl ))))); (any_goals (apply okIx_mk; rfl)))
      rintro x hx
      by_cases hxl : x < s.ns.length
      · have hz : 0 + Int.toNat (x : Int) = x := by omega
        obtain ⟨f1n, f2k, f3, f4⟩ := hfa x hxl
        have he := he x hxl
        have f2k : (L.getD (0 + Int.toNat (x : Int)) gp0).known = decide ((L.getD (0 + Int.toNat (x : Int)) gp0).master ≥ 0) := by rw [hz]; exact f2k
        have f4 : IntKind.i64.wrap ((L.getD (0 + Int.toNat (x : Int)) gp0).measured - (L.getD (0 + Int.toNat (x : Int)) gp0).actual) = E x := by rw [hz]; exact f4
        have f1n : (L.getD (0 + Int.toNat (x : Int)) gp0).node = (x : Int) := by rw [hz]; exact f1n
        (repeat' (first
    | (intro Q h; refine h ?_; clear h Q)
    | (refine bcase_mk (fun hb => ?_) (fun hb => ?_) <;> (try simp only [nS, nT, eq_self, reduceCtorEq] at hb) <;> (try (exfalso; (first | omega | exact hb f2k ); done)))
    | refine seq_go ?_
    | refine And.intro (by first | omega | ((try simp only [wS]); omega) | rfl | decide) ?_
    | ((first | apply call_detx [some 0, some 1, some 8, some 9, some 4, some 4, some 6, some 7] (he) ); (focus ((iterate 2 (all_goals (repeat' (first | exact rows_same rfl rfl rfl rfl | exact os_same rfl rfl rfl rfl | exact subL_nil | exact trivial | (intro Q h; refine h ?_; clear h Q) | refine And.intro ?_ ?_ | refine subL_cons ?_ ?_ | refine sub_agg ?_ | exact sub_sl rfl rfl rfl | exact sub_refl_val _ _ | exact row_same rfl rfl rfl | ((first | refine sub_sl rfl rfl ?_ ); first | with_reducible rfl | omega | ((try simp only [wS]); omega) | rfl) )))); done)); (any_goals (first | (apply nodup_mk; rfl) )))
    | (apply next_sub (Subtype.mk (x + 1) _); (focus (apply le_mk [some 0, some 1, some 2, some 3, some 4, some 5, some 6, some 7, some 8, some 9, some 10, some 11, some 12, some 13]; (focus (iterate 2 (all_goals (repeat' (first | exact rows_same rfl rfl rfl rfl | exact os_same rfl rfl rfl rfl | exact tw_same (by decide) | exact subL_nil | exact trivial | (intro Q h; refine h ?_; clear h Q) | refine And.intro ?_ ?_ | refine subL_cons ?_ ?_ | refine var_mk ?_ | exact sub_ptr rfl rfl | exact sub_sl rfl rfl rfl | exact sub_refl_val _ _ | exact row_same rfl rfl rfl | ((first | refine sub_int ?_ ); first | with_reducible rfl | omega | ((try simp only [wS]); omega) | rfl) ))))); (any_goals (apply okIx_mk; rfl)))); (all_goals (try (first | omega | (simp only; omega)))))
    ))
      · (repeat' (first
    | (intro Q h; refine h ?_; clear h Q)
    | (refine bcase_mk (fun hb => ?_) (fun hb => ?_) <;> (try simp only [nS, nT, eq_self, reduceCtorEq] at hb) <;> (try (exfalso; (first | omega ); done)))
    | (apply next_sub (Subtype.mk (1 + 1) _); (focus (apply le_mk [some 0, some 1, some 2, some 3, some 4, some 5, some 6, some 7, some 8, some 9, some 10, some 11]; (focus (iterate 2 (all_goals (repeat' (first | exact rows_same rfl rfl rfl rfl | exact os_same rfl rfl rfl rfl | exact tw_same (by decide) | exact subL_nil | exact trivial | (intro Q h; refine h ?_; clear h Q) | refine And.intro ?_ ?_ | refine subL_cons ?_ ?_ | refine var_mk ?_ | exact sub_ptr rfl rfl | exact sub_sl rfl rfl rfl | exact sub_refl_val _ _ | exact row_same rfl rfl rfl ))))); (any_goals (apply okIx_mk; rfl)))); (all_goals (try (first | omega | (simp only; omega)))))
    ))
  · rcases R2 with ⟨e, he0, r⟩ | ⟨hcc, r, _⟩
    · (repeat' (first
    | (intro Q h; refine h ?_; clear h Q)
    | refine bcase_f (by decide) ?_
    | refine seq_go ?_
    | ((first | apply call_detx [some 0, some 1, some 8, some 9, some 4, some 4, some 6, some 7] (r) ); (focus ((iterate 2 (all_goals (repeat' (first | exact rows_same rfl rfl rfl rfl | exact os_same rfl rfl rfl rfl | exact subL_nil | exact trivial | (intro Q h; refine h ?_; clear h Q) | refine And.intro ?_ ?_ | refine subL_cons ?_ ?_ | refine sub_agg ?_ | exact sub_sl rfl rfl rfl | exact sub_refl_val _ _ | exact row_same rfl rfl rfl | ((first | refine sub_sl rfl rfl ?_ ); first | with_reducible rfl | omega | ((try simp only [wS]); omega) | rfl) )))); done)); (any_goals (first | (apply nodup_mk; rfl) )))
    | (refine loop_go 1 ?_)
    | ((first | apply call0 (haw) ); (focus (iterate 2 (all_goals (repeat' (first | exact subL_nil ))))))
    | (apply ret_mk [some 0, some 1, some 2, some 3, some 4, some 5, some 6, some 7]; (focus (iterate 2 (all_goals (repeat' (first | exact rows_same rfl rfl rfl rfl | exact os_same rfl rfl rfl rfl | exact trivial | (intro Q h; refine h ?_; clear h Q) | refine And.intro ?_ ?_ | exact sub_sb rfl | exact row_same rfl rfl rfl ))))); (any_goals (apply okIx_mk; rfl)))
    ))
    · have hfa := fun x hx => F2 hcc x hx
      generalize rnL (flS s hd s.dn s.c3) t = L at *
      generalize erS (flS s hd s.dn s.c3) = E at *
      (repeat' (first
    | (intro Q h; refine h ?_; clear h Q)
    | (refine bcase_mk (fun hb => ?_) (fun hb => ?_) <;> (try simp only [nS, nT, eq_self, reduceCtorEq] at hb) <;> (try (exfalso; (first | omega ); done)))
    | refine seq_go ?_
    | ((first | apply call_detx [some 0, some 1, some 8, some 9, some 4, some 4, some 6, some 7] (r) ); (focus ((iterate 2 (all_goals (repeat' (first | exact rows_same rfl rfl rfl rfl | exact os_same rfl rfl rfl rfl | exact subL_nil | exact trivial | (intro Q h; refine h ?_; clear h Q) | refine And.intro ?_ ?_ | refine subL_cons ?_ ?_ | refine sub_agg ?_ | exact sub_sl rfl rfl rfl | exact sub_refl_val _ _ | exact row_same rfl rfl rfl | ((first | refine sub_sl rfl rfl ?_ ); first | with_reducible rfl | omega | ((try simp only [wS]); omega) | rfl) )))); done)); (any_goals (first | (apply nodup_mk; rfl) )))
    ))
      refine loop_inv (σ := Nat) (fun x => x ≤ s.ns.length) (fun x => ⟨[(18, .val (.int .i64 0)), (112, .sl 8 6 0 s.ns.length none), (113, .val (.int .i64 s.ns.length)), (114, .val (.int .i64 x))], [gB s.l, ndB s.ns, osB s.os s.hd, osR s.os s.hd, iB false s.dn, iB false s.up, blB s.tr, iB false s.st, .arr true 41 6 s.ns.length (rowF gpC gp0 L)]⟩) (fun x => s.ns.length - x) (0) ?_ ?_ ?_
      · omega
      · (apply le_mk [some 0, some 1, some 2, some 3, some 4, some 5, some 6, some 7, some 12]; (focus (iterate 2 (all_goals (repeat' (first | exact rows_same rfl rfl rfl rfl | exact os_same rfl rfl rfl rfl | exact trivial | (intro Q h; refine h ?_; clear h Q) | refine And.intro ?_ ?_ | exact sub_sl rfl rfl rfl | exact sub_refl_val _ _ | exact row_same rfl rfl rfl | exact row_ren rfl rfl rfl ))))); (any_goals (apply okIx_mk; rfl)))
      rintro x hx
      by_cases hxl : x < s.ns.length
      · have hz : 0 + Int.toNat (x : Int) = x := by omega
        obtain ⟨f1n, f2k, f3, f4⟩ := hfa x hxl
        have hE := E2 x
        have f3 : (L.getD (0 + Int.toNat (x : Int)) gp0).measured = (L.getD (0 + Int.toNat (x : Int)) gp0).actual := by rw [hz]; omega
        (repeat' (first
    | (intro Q h; refine h ?_; clear h Q)
    | (refine bcase_mk (fun hb => ?_) (fun hb => ?_) <;> (try simp only [nS, nT, eq_self, reduceCtorEq] at hb) <;> (try (exfalso; (first | omega ); done)))
    | refine seq_go ?_
    | refine And.intro (by first | omega | ((try simp only [wS]); omega) | rfl | decide) ?_
    | (apply next_sub (Subtype.mk (x + 1) _); (focus (apply le_mk [some 0, some 1, some 2, some 3, some 4, some 5, some 6, some 7, some 8]; (focus (iterate 2 (all_goals (repeat' (first | exact rows_same rfl rfl rfl rfl | exact os_same rfl rfl rfl rfl | exact trivial | (intro Q h; refine h ?_; clear h Q) | refine And.intro ?_ ?_ | exact sub_sl rfl rfl rfl | exact sub_refl_val _ _ | exact row_same rfl rfl rfl | ((first | refine sub_int ?_ ); first | with_reducible rfl | omega | ((try simp only [wS]); omega) | rfl) ))))); (any_goals (apply okIx_mk; rfl)))); (all_goals (try (first | omega | (simp only; omega)))))
    ))
      · (repeat' (first
    | (intro Q h; refine h ?_; clear h Q)
    | (refine bcase_mk (fun hb => ?_) (fun hb => ?_) <;> (try simp only [nS, nT, eq_self, reduceCtorEq] at hb) <;> (try (exfalso; (first | omega ); done)))
    | ((first | apply call0 (haw) ); (focus (iterate 2 (all_goals (repeat' (first | exact subL_nil ))))))
    | (apply ret_mk [some 0, some 1, some 2, some 3, some 4, some 5, some 6, some 7]; (focus (iterate 2 (all_goals (repeat' (first | exact rows_same rfl rfl rfl rfl | exact os_same rfl rfl rfl rfl | exact trivial | (intro Q h; refine h ?_; clear h Q) | refine And.intro ?_ ?_ | exact sub_sb rfl | exact row_same rfl rfl rfl ))))); (any_goals (apply okIx_mk; rfl)))
    ))
end Go.Vx.L58

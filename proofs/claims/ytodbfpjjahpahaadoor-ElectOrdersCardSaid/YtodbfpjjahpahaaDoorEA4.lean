/- Lemmas of a small executor for the model, and contracts of functions, used for the law that this claim proves. No condition. -/
import Derived.Test.YtodbfpjjahpahaaDoorEA3
set_option linter.unusedSimpArgs false
set_option linter.unusedVariables false
set_option maxRecDepth 100000
namespace Go.Vx.L42
open Go Go.Proofs
abbrev plA (v : Int × Int) : AV := .agg [.val (.int .i64 v.1), .val (.int .i64 v.2)]
/-- A memo. -/
structure Mm where
  node : Int
  port : Int
  age : Int
  set : DS
  deriving DecidableEq, Inhabited
abbrev meA (m : Mm) : AV := .agg (.val (.int .i64 m.node) :: .val (.int .i64 m.port) :: .val (.int .i64 m.age) :: dC m.set)
theorem plA_flat {g : List Int → Int × Int} : ∀ x, FlatA ((fun k => plA (g k)) x) := fun x => by
  simp [FlatA, flatV]
theorem meA_flat {g : List Int → Mm} : ∀ x, FlatA ((fun k => meA (g k)) x) := fun x => by
  simp [FlatA, flatV]
/-- The memos of a state, as they are kept: their keys, and the memo of each. -/
structure MS where
  ks : List (List Int)
  g : List Int → Mm
abbrev mB (s : MS) : Blk := .map (some 2) s.ks (fun k => meA (s.g k))
/-- The ends of the edges, as they are kept. -/
abbrev peB (pk : List (List Int)) (gp : List Int → Int × Int) : Blk := .map (some 2) pk (fun k => plA (gp k))
abbrev aF (ns : List Nd) (cap : Option Nat) (rs : List (List Int)) : AV := .agg [.sl 0 6 0 ns.length cap, .sl 1 1 0 rs.length none, .map 2]
abbrev fB (ns : List Nd) (rs : List (List Int)) (pk : List (List Int)) (gp : List Int → Int × Int) : List Blk := [ndB ns, nR rs.length rs, peB pk gp]
theorem own_ok (ns : List Nd) (cap : Option Nat) (rs pk : List (List Int)) (gp : List Int → Int × Int) (x : Nat) (hx : x < ns.length) :
    Runs Tryd.prog 25 [aF ns cap rs, .val (.int .i64 x)] (fB ns rs pk gp) (Det (aD (owD (ns.getD x nd0))) (fB ns rs pk gp)) := by
  have hz : 0 + Int.toNat (x : Int) = x := by omega
  have h := own52_ok (ns.getD x nd0)
  generalize hO : owD (ns.getD x nd0) = O at *
  rw [← hz] at h
  refine Runs.mk tabOK Tryd.call25 Tryd.func25 rfl Tryd.ntmps25 Tryd.results25 rfl ?_
  (repeat' (first
    | (intro Q h; refine h ?_; clear h Q)
    | refine draw_mk (by decide +kernel) ?_
    | refine seq_go ?_
    | refine And.intro (by first | omega | ((try simp only [wS]); omega) | rfl | decide) ?_
    | ((first | apply calld0 (h)); (focus ((iterate 2 (all_goals (repeat' (first | exact subL_nil | refine subL_cons ?_ ?_ | refine sub_agg ?_ | exact sub_refl_val _ _ )))); done)))
    | (apply ret_mk [some 0, some 1, some 2]; (focus (iterate 2 (all_goals (repeat' (first | exact fam_same rfl rfl rfl | exact mapa_same plA_flat rfl (fun _ _ => rfl) | exact subL_nil | exact trivial | (intro Q h; refine h ?_; clear h Q) | refine And.intro ?_ ?_ | refine subL_cons ?_ ?_ | refine sub_agg ?_ | exact sub_refl_val _ _ | exact row_same rfl rfl rfl ))))); (any_goals (apply okIx_mk; rfl)))
    ))
def namN (ns : List Nd) (g : Int) : Int := namX (fun i => (ns.getD i nd0).id) g ns.length 0
theorem named_ok (ns : List Nd) (cap : Option Nat) (rs pk : List (List Int)) (gp : List Int → Int × Int) (g : Int) (hn : ns.length ≤ 1000) :
    Runs Tryd.prog 43 [aF ns cap rs, .val (.int .u64 g)] (fB ns rs pk gp) (Det (.val (.int .i64 (namN ns g))) (fB ns rs pk gp)) := by
  refine Runs.mk tabOK Tryd.call43 Tryd.func43 rfl Tryd.ntmps43 Tryd.results43 rfl ?_
  (repeat' (first
    | (intro Q h; refine h ?_; clear h Q)
    | refine seq_go ?_
    ))
  refine loop_inv (σ := Nat) (fun x => x ≤ ns.length ∧ namX (fun i => (ns.getD i nd0).id) g (ns.length - x) x = namN ns g) (fun x => ⟨[(1, .val (.int .u64 g)), (8, .sl 0 6 0 ns.length cap), (9, .val (.int .i64 ns.length)), (10, .val (.int .i64 x))], [ndB ns, nR rs.length rs, peB pk gp]⟩) (fun x => ns.length - x) (0) ?_ ?_ ?_
  · exact ⟨by omega, rfl⟩
  · (apply le_mk [some 0, some 1, some 2]; (focus (iterate 2 (all_goals (repeat' (first | exact fam_same rfl rfl rfl | exact mapa_same plA_flat rfl (fun _ _ => rfl) | exact trivial | (intro Q h; refine h ?_; clear h Q) | refine And.intro ?_ ?_ | exact sub_sl rfl rfl rfl | exact sub_refl_val _ _ | exact row_same rfl rfl rfl ))))); (any_goals (apply okIx_mk; rfl)))
  rintro x ⟨hx, hxe⟩
  by_cases hxl : x < ns.length
  · have hz : 0 + Int.toNat (x : Int) = x := by omega
    rw [show ns.length - x = (ns.length - (x + 1)) + 1 by omega, namX] at hxe
    by_cases hc : (ns.getD x nd0).id = g
    · rw [if_pos hc] at hxe
      rw [← hxe]
      rw [← hz] at hc
      (repeat' (first
    | (intro Q h; refine h ?_; clear h Q)
    | (refine bcase_mk (fun hb => ?_) (fun hb => ?_) <;> (try simp only [nS, nT, eq_self, reduceCtorEq] at hb) <;> (try (exfalso; (first | omega ); done)))
    | refine seq_go ?_
    | refine And.intro (by first | omega | ((try simp only [wS]); omega) | rfl | decide) ?_
    | (apply ret_mk [some 0, some 1, some 2]; (focus (iterate 2 (all_goals (repeat' (first | exact fam_same rfl rfl rfl | exact mapa_same plA_flat rfl (fun _ _ => rfl) | exact trivial | (intro Q h; refine h ?_; clear h Q) | refine And.intro ?_ ?_ | exact sub_refl_val _ _ | exact row_same rfl rfl rfl ))))); (any_goals (apply okIx_mk; rfl)))
    ))
    · rw [if_neg hc] at hxe
      rw [← hz] at hc
      (repeat' (first
    | (intro Q h; refine h ?_; clear h Q)
    | (refine bcase_mk (fun hb => ?_) (fun hb => ?_) <;> (try simp only [nS, nT, eq_self, reduceCtorEq] at hb) <;> (try (exfalso; (first | omega ); done)))
    | refine seq_go ?_
    | refine And.intro (by first | omega | ((try simp only [wS]); omega) | rfl | decide) ?_
    | (apply next_sub (Subtype.mk (x + 1) ⟨by omega, hxe⟩); (focus (apply le_mk [some 0, some 1, some 2]; (focus (iterate 2 (all_goals (repeat' (first | exact fam_same rfl rfl rfl | exact mapa_same plA_flat rfl (fun _ _ => rfl) | exact trivial | (intro Q h; refine h ?_; clear h Q) | refine And.intro ?_ ?_ | exact sub_sl rfl rfl rfl | exact sub_refl_val _ _ | exact row_same rfl rfl rfl | ((first | refine sub_int ?_ ); first | with_reducible rfl | omega | ((try simp only [wS]); omega) | rfl) ))))); (any_goals (apply okIx_mk; rfl)))); (all_goals (try (first | (simp only; omega)))))
    ))
  · have hx' : x = ns.length := by omega
    subst hx'
    rw [Nat.sub_self, namX] at hxe
    rw [← hxe]
    (repeat' (first
    | (intro Q h; refine h ?_; clear h Q)
    | (refine bcase_mk (fun hb => ?_) (fun hb => ?_) <;> (try simp only [nS, nT, eq_self, reduceCtorEq] at hb) <;> (try (exfalso; (first | omega ); done)))
    | (apply ret_mk [some 0, some 1, some 2]; (focus (iterate 2 (all_goals (repeat' (first | exact fam_same rfl rfl rfl | exact mapa_same plA_flat rfl (fun _ _ => rfl) | exact trivial | (intro Q h; refine h ?_; clear h Q) | refine And.intro ?_ ?_ | exact sub_refl_val _ _ | exact row_same rfl rfl rfl ))))); (any_goals (apply okIx_mk; rfl)))
    ))
/-- What the first ports of a node have heard. -/
def hrX (s : MS) (n : Int) (x : Nat) : List (Option DS) := (List.range 8).map fun i => if i < x ∧ s.ks.contains [n, ((i + 1 : Nat) : Int)] = true then some (s.g [n, ((i + 1 : Nat) : Int)]).set else none
theorem hrX_len (s : MS) (n : Int) (x : Nat) : (hrX s n x).length = 8 := by simp [hrX]
theorem hrX_zero (s : MS) (n : Int) : hrX s n 0 = List.replicate 8 none := by
  unfold hrX
  simp
  rfl
theorem hrX_yes (s : MS) (n : Int) (x : Nat) (hx : x < 8) (h : s.ks.contains [n, ((x + 1 : Nat) : Int)] = true) : hrX s n (x + 1) = (hrX s n x).set x (some (s.g [n, ((x + 1 : Nat) : Int)]).set) := by
  apply List.ext_getElem (by simp [hrX])
  intro i h1 h2
  rw [List.getElem_set]
  by_cases hi : x = i
  · subst hi
    rw [if_pos rfl]
    simp only [hrX, List.getElem_map, List.getElem_range]
    rw [if_pos ⟨by omega, h⟩]
  · rw [if_neg hi]
    simp only [hrX, List.getElem_map, List.getElem_range]
    have : (i < x + 1 ∧ s.ks.contains [n, ((i + 1 : Nat) : Int)] = true) ↔ (i < x ∧ s.ks.contains [n, ((i + 1 : Nat) : Int)] = true) := by
      constructor <;> rintro ⟨h1, h2⟩ <;> exact ⟨by omega, h2⟩
    simp only [this]
theorem hrX_no (s : MS) (n : Int) (x : Nat) (h : s.ks.contains [n, ((x + 1 : Nat) : Int)] = false) : hrX s n (x + 1) = hrX s n x := by
  apply List.ext_getElem (by simp [hrX])
  intro i h1 h2
  simp only [hrX, List.getElem_map, List.getElem_range]
  have : (i < x + 1 ∧ s.ks.contains [n, ((i + 1 : Nat) : Int)] = true) ↔ (i < x ∧ s.ks.contains [n, ((i + 1 : Nat) : Int)] = true) := by
    constructor
    · rintro ⟨h3, h4⟩
      by_cases e : i = x
      · rw [e, h] at h4; cases h4
      · exact ⟨by omega, h4⟩
    · rintro ⟨h3, h4⟩; exact ⟨by omega, h4⟩
  simp only [this]
abbrev pBw (l : List (Option DS)) : Blk := .arr true 151 12 l.length (pbF l)
set_option maxHeartbeats 1000000 in
theorem heard_ok (s : MS) (n : Nat) : Runs Tryd.prog 42 [.map 0, .val (.int .i64 n)] [mB s] (Det (.sl 1 12 0 8 none) [mB s, pBw (hrX s n 8)]) := by
  refine Runs.mk tabOK Tryd.call42 Tryd.func42 rfl Tryd.ntmps42 Tryd.results42 rfl ?_
  (repeat' (first
    | (intro Q h; refine h ?_; clear h Q)
    | refine seq_go ?_
    | refine And.intro (by first | omega | ((try simp only [wS]); omega) | rfl | decide) ?_
    ))
  refine loop_inv (σ := Nat) (fun x => x ≤ 8) (fun x => ⟨[(0, .map 0), (1, .val (.int .i64 n)), (5, .sl 1 12 0 8 none), (11, .val (.int .i64 8)), (12, .val (.int .i64 x))], [mB s, pBw (hrX s n x)]⟩) (fun x => 8 - x) (0) ?_ ?_ ?_
  · omega
  · (apply le_mk [some 0, some 1]; (focus (iterate 2 (all_goals (repeat' (first | exact mapa_same meA_flat rfl (fun _ _ => rfl) | exact sub_map rfl | exact trivial | (intro Q h; refine h ?_; clear h Q) | refine And.intro ?_ ?_ | exact sub_sl rfl rfl rfl | exact sub_refl_val _ _ | exact sub_sbl rfl | refine cells_succ ?_ ?_ | exact cell0 | (apply row_lit rfl; (focus (refine cells_succ ?_ ?_))) ))))); (any_goals (apply okIx_mk; rfl)))
    all_goals first
      | exact row_rep (x := none) (subL_cons (sub_sb rfl) (subL_cons (sub_int rfl) (subL_cons (sub_int rfl) (subL_cons (sub_int rfl) (subL_cons (sub_int rfl) (subL_cons (sub_int rfl) (subL_cons (sub_int rfl) (subL_cons (sub_int rfl) (subL_cons (sub_int rfl) (subL_cons (sub_int rfl) (subL_cons (sub_int rfl) (subL_cons (sub_int rfl) subL_nil)))))))))))) (hrX_zero s n) rfl
      | fail
  rintro x hx
  have hle := hrX_len s n x
  by_cases hx8 : x < 8
  · have hz : 0 + Int.toNat (x : Int) = x := by omega
    have hwr : IntKind.i64.wrap ((x : Int) + 1) = ((x + 1 : Nat) : Int) := by rw [cwrap (by omega) (by omega)]; rfl
    cases hc : s.ks.contains [(n : Int), ((x + 1 : Nat) : Int)]
    · have hh := hc
      rw [← hwr] at hh
      have hn := hrX_no s n x hc
      (repeat' (first
    | (intro Q h; refine h ?_; clear h Q)
    | (with_reducible refine bcase_false ?_)
    | (refine bcase_mk (fun hb => ?_) (fun hb => ?_) <;> (try simp only [nS, nT, eq_self, reduceCtorEq] at hb) <;> (try (exfalso; (first | omega | (rw [hh] at hb; cases hb)); done)))
    | refine seq_go ?_
    | (apply next_sub (Subtype.mk (x + 1) (by first | omega | (simp only; omega))); (focus (rw [hn]; apply le_mk [some 0, some 1]; (focus (iterate 2 (all_goals (repeat' (first | exact mapa_same meA_flat rfl (fun _ _ => rfl) | exact sub_map rfl | exact trivial | (intro Q h; refine h ?_; clear h Q) | refine And.intro ?_ ?_ | exact sub_sl rfl rfl rfl | exact sub_refl_val _ _ | exact row_same rfl rfl rfl | ((first | refine sub_int ?_ ); first | with_reducible rfl | omega | ((try simp only [wS]); omega) | rfl) ))))); (any_goals (apply okIx_mk; rfl)))); (all_goals (try (first | (simp only; omega)))))
    ))
    · have hh := hc
      rw [← hwr] at hh
      have hn := hrX_yes s n x hx8 hc
      rw [← hwr] at hn
      generalize hrX s n x = L at *
      have hn' : hrX s n (x + 1) = L.set (0 + Int.toNat (x : Int)) (some (s.g [(n : Int), IntKind.i64.wrap ((x : Int) + 1)]).set) := by rw [hz]; exact hn
      (repeat' (first
    | (intro Q h; refine h ?_; clear h Q)
    | (with_reducible refine bcase_true ?_)
    | (refine bcase_mk (fun hb => ?_) (fun hb => ?_) <;> (try simp only [nS, nT, eq_self, reduceCtorEq] at hb) <;> (try (exfalso; (first | omega | (rw [hh] at hb; cases hb)); done)))
    | refine seq_go ?_
    | refine And.intro (by first | omega | ((try simp only [wS]); omega) | rfl | decide) ?_
    | (apply next_sub (Subtype.mk (x + 1) (by first | omega | (simp only; omega))); (focus (rw [hn']; apply le_mk [some 0, some 1]; (focus (iterate 2 (all_goals (repeat' (first | exact mapa_same meA_flat rfl (fun _ _ => rfl) | exact sub_map rfl | exact trivial | (intro Q h; refine h ?_; clear h Q) | refine And.intro ?_ ?_ | exact sub_sl rfl rfl rfl | exact sub_refl_val _ _ | ((first | refine sub_int ?_ ); first | with_reducible rfl | omega | ((try simp only [wS]); omega) | rfl) ))))); (any_goals (apply okIx_mk; rfl)))); (all_goals (try (first | (simp only; omega)))))
    ))
      all_goals exact row_setl rfl (subL_cons (sub_sbl rfl) (subL_cons (sub_int rfl) (subL_cons (sub_int rfl) (subL_cons (sub_int rfl) (subL_cons (sub_int rfl) (subL_cons (sub_int rfl) (subL_cons (sub_int rfl) (subL_cons (sub_int rfl) (subL_cons (sub_int rfl) (subL_cons (sub_int rfl) (subL_cons (sub_int rfl) (subL_cons (sub_int rfl) subL_nil)))))))))))) (by rw [hle]; omega) rfl rfl rfl
  · obtain rfl : x = 8 := by omega
    (repeat' (first
    | (intro Q h; refine h ?_; clear h Q)
    | (refine bcase_mk (fun hb => ?_) (fun hb => ?_) <;> (try simp only [nS, nT, eq_self, reduceCtorEq] at hb) <;> (try (exfalso; (first | omega ); done)))
    | (apply ret_mk [some 0, some 1]; (focus (iterate 2 (all_goals (repeat' (first | exact mapa_same meA_flat rfl (fun _ _ => rfl) | exact trivial | (intro Q h; refine h ?_; clear h Q) | refine And.intro ?_ ?_ | exact sub_sl rfl rfl rfl | exact row_same rfl rfl rfl ))))); (any_goals (apply okIx_mk; rfl)))
    ))
end Go.Vx.L42

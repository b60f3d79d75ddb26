/- Lemmas of a small executor for the model, and contracts of functions, used for the law that this claim proves. No condition. -/
import Derived.Test.YtodbfpjjahpahaaDoorEA9
set_option linter.unusedSimpArgs false
set_option linter.unusedVariables false
set_option maxRecDepth 100000
namespace Go.Vx.L42
open Go Go.Proofs
def lsP (s : MS) (x : Nat) (acc : List Mm) (p : Int) : List Mm := if s.ks.contains [(x : Int), p] = true then acc ++ [s.g [(x : Int), p]] else acc
/-- The memos in the order of their places. -/
def lsA (rs : List (List Int)) (s : MS) : Nat → List Mm
  | 0 => []
  | x + 1 => (rs.getD x []).foldl (lsP s x) (lsA rs s x)
theorem lsP_len (s : MS) (x : Nat) : ∀ (L : List Int) (acc : List Mm), (L.foldl (lsP s x) acc).length ≤ acc.length + L.length
  | [], acc => by simp
  | p :: L, acc => by
    rw [List.foldl_cons]
    have := lsP_len s x L (lsP s x acc p)
    have h2 : (lsP s x acc p).length ≤ acc.length + 1 := by
      unfold lsP; split
      · simp
      · omega
    simp only [List.length_cons]; omega
theorem lsA_len {rs : List (List Int)} (s : MS) {n : Nat} (hr : ∀ x, x < n → (rs.getD x []).length ≤ 8) : ∀ x, x ≤ n → (lsA rs s x).length ≤ 8 * x
  | 0, _ => by simp [lsA]
  | x + 1, hx => by
    have h1 := lsA_len s hr x (by omega)
    have h2 := lsP_len s x (rs.getD x []) (lsA rs s x)
    have := hr x (by omega)
    rw [lsA]; omega
set_option maxHeartbeats 4000000 in
theorem list_ok (ns : List Nd) (cap : Option Nat) (rs pk : List (List Int)) (gp : List Int → Int × Int) (hn : rs.length ≤ 24) (hr : ∀ x, x < rs.length → (rs.getD x []).length ≤ 8) (s : MS) :
    Runs Tryd.prog 40 [aF ns cap rs, .map 3] [ndB ns, nR rs.length rs, peB pk gp, mB s] (Det (.sl 4 14 0 (lsA rs s rs.length).length none) [ndB ns, nR rs.length rs, peB pk gp, mB s, meB true (lsA rs s rs.length)]) := by
  have hll := lsA_len s hr
  refine Runs.mk tabOK Tryd.call40 Tryd.func40 rfl Tryd.ntmps40 Tryd.results40 rfl ?_
  (repeat' (first
    | (intro Q h; refine h ?_; clear h Q)
    | refine seq_go ?_
    ))
  refine loop_inv (σ := Nat) (fun x => x ≤ rs.length) (fun x => ⟨[(1, .map 3), (5, .sl 4 14 0 (lsA rs s x).length none), (13, .sl 1 1 0 rs.length none), (14, .val (.int .i64 rs.length)), (15, .val (.int .i64 x))], [ndB ns, nR rs.length rs, peB pk gp, mB s, meB true (lsA rs s x)]⟩) (fun x => rs.length - x) (0) ?_ ?_ ?_
  · omega
  · (apply le_mk [some 0, some 1, some 2, some 3, none]; (focus (iterate 2 (all_goals (repeat' (first | exact fam_same rfl rfl rfl | exact mapa_same plA_flat rfl (fun _ _ => rfl) | exact mapa_same meA_flat rfl (fun _ _ => rfl) | exact sub_map rfl | exact trivial | (intro Q h; refine h ?_; clear h Q) | refine And.intro ?_ ?_ | exact sub_sl rfl rfl rfl | exact sub_refl_val _ _ | exact row_same rfl rfl rfl | exact sub_nil rfl | ((first | refine virt_mk ?_ ); first | with_reducible rfl | omega | ((try simp only [wS]); omega) | rfl) ))))); (any_goals (apply okIx_mk; rfl)))
  rintro z hz
  have hlz := hll z hz
  by_cases hzl : z < rs.length
  · have hz0 : 0 + Int.toNat (z : Int) = z := by omega
    have hsz : lsA rs s (z + 1) = (rs.getD z []).foldl (lsP s z) (lsA rs s z) := rfl
    have hrz := hr z hzl
    have hlen := fun k => lsP_len s z ((rs.getD z []).take k) (lsA rs s z)
    generalize hsz1 : lsA rs s (z + 1) = A1 at *
    generalize lsA rs s z = A at *
    generalize hW : rs.getD z [] = W at *
    have hW2 : (famF intC 0 rs z).1 = W.length := by rw [famF_fst, hW]
    have hW3 : (famF intC 0 rs (0 + Int.toNat (z : Int))).1 = W.length := by rw [hz0, famF_fst, hW]
    (repeat' (first
    | (intro Q h; refine h ?_; clear h Q)
    | (refine bcase_mk (fun hb => ?_) (fun hb => ?_) <;> (try simp only [nS, nT, eq_self, reduceCtorEq] at hb) <;> (try (exfalso; (first | omega ); done)))
    | refine seq_go ?_
    | refine And.intro (by first | omega | ((try simp only [wS]); omega) | rfl | decide) ?_
    ))
    refine loop_inv (σ := Nat) (fun x => x ≤ W.length) (fun x => ⟨[(1, .map 3), (5, .sl 4 14 0 ((W.take x).foldl (lsP s z) A).length none), (6, .val (.int .i64 z)), (13, .sl 1 1 0 rs.length none), (14, .val (.int .i64 rs.length)), (15, .val (.int .i64 z)), (20, .sl 5 1 0 W.length none), (21, .val (.int .i64 W.length)), (22, .val (.int .i64 x))], [ndB ns, nR rs.length rs, peB pk gp, mB s, meB true ((W.take x).foldl (lsP s z) A), .row 1 z]⟩) (fun x => W.length - x) (0) ?_ ?_ ?_
    · omega
    · (apply le_mk [some 0, some 1, some 2, some 3, some 4, some 5]; (focus (iterate 2 (all_goals (repeat' (first | exact fam_same rfl rfl rfl | (refine row_nm rfl ?_) | exact mapa_same plA_flat rfl (fun _ _ => rfl) | exact mapa_same meA_flat rfl (fun _ _ => rfl) | exact sub_map rfl | exact trivial | (intro Q h; refine h ?_; clear h Q) | refine And.intro ?_ ?_ | exact sub_sl rfl rfl rfl | exact sub_refl_val _ _ | exact row_same rfl rfl rfl | ((first | refine sub_int ?_ | refine sub_sl rfl rfl ?_ | show (_ : Nat) = _); first | with_reducible rfl | omega | ((try simp only [wS]); omega) | rfl) ))))); (any_goals (apply okIx_mk; rfl)))
    rintro j hj
    have hlj := hlen j
    rw [List.length_take] at hlj
    by_cases hjW : j < W.length
    · have hzj : 0 + Int.toNat (j : Int) = j := by omega
      have hS2 := foldl_take (lsP s z) A W j 0 hjW
      have hPe : (rs.getD z []).getD (0 + Int.toNat (j : Int)) 0 = W.getD j 0 := by rw [hW, hzj]
      rw [← hPe] at hS2
      generalize hq' : (W.take (j + 1)).foldl (lsP s z) A = q' at *
      generalize (W.take j).foldl (lsP s z) A = q at *
      unfold lsP at hS2
      cases hh : s.ks.contains [(z : Int), (rs.getD z []).getD (0 + Int.toNat (j : Int)) 0]
      · rw [hh, if_neg (by simp)] at hS2
        (repeat' (first
    | (intro Q h; refine h ?_; clear h Q)
    | (with_reducible refine bcase_false ?_)
    | (refine bcase_mk (fun hb => ?_) (fun hb => ?_) <;> (try simp only [nS, nT, eq_self, reduceCtorEq] at hb) <;> (try (exfalso; (first | omega | (rw [hh] at hb; cases hb)); done)))
    | refine seq_go ?_
    | refine And.intro (by first | omega | ((try simp only [wS]); omega) | rfl | decide) ?_
    | (apply next_sub (Subtype.mk (j + 1) (by first | omega | (simp only; omega))); (focus (rw [hq', hS2]; apply le_mk [some 0, some 1, some 2, some 3, some 4, some 5]; (focus (iterate 2 (all_goals (repeat' (first | exact fam_same rfl rfl rfl | exact row_nm rfl rfl | exact mapa_same plA_flat rfl (fun _ _ => rfl) | exact mapa_same meA_flat rfl (fun _ _ => rfl) | exact sub_map rfl | exact trivial | (intro Q h; refine h ?_; clear h Q) | refine And.intro ?_ ?_ | exact sub_sl rfl rfl rfl | exact sub_refl_val _ _ | exact row_same rfl rfl rfl | ((first | refine sub_int ?_ ); first | with_reducible rfl | omega | ((try simp only [wS]); omega) | rfl) ))))); (any_goals (apply okIx_mk; rfl)))); (all_goals (try (first | (simp only; omega)))))
    ))
      · rw [hh, if_pos rfl] at hS2
        (repeat' (first
    | (intro Q h; refine h ?_; clear h Q)
    | (with_reducible refine bcase_true ?_)
    | (refine bcase_mk (fun hb => ?_) (fun hb => ?_) <;> (try simp only [nS, nT, eq_self, reduceCtorEq] at hb) <;> (try (exfalso; (first | omega | (rw [hh] at hb; cases hb)); done)))
    | refine seq_go ?_
    | refine And.intro (by first | omega | ((try simp only [wS]); omega) | rfl | decide) ?_
    | (apply next_sub (Subtype.mk (j + 1) (by first | omega | (simp only; omega))); (focus (rw [hq', hS2]; apply le_mk [some 0, some 1, some 2, some 3, some _, some 5]; (focus (iterate 2 (all_goals (repeat' (first | exact fam_same rfl rfl rfl | exact row_nm rfl rfl | exact mapa_same plA_flat rfl (fun _ _ => rfl) | exact mapa_same meA_flat rfl (fun _ _ => rfl) | exact sub_map rfl | exact trivial | (intro Q h; refine h ?_; clear h Q) | refine And.intro ?_ ?_ | exact sub_sl rfl rfl rfl | exact sub_refl_val _ _ | exact row_same rfl rfl rfl | ((first | refine sub_int ?_ | refine sub_sl rfl rfl ?_ | show (_ : Nat) = _); first | with_reducible rfl | omega | ((try simp only [wS]); omega) | rfl) | apply row_app1 | refine cells_succ ?_ ?_ | exact cell0 | with_reducible rfl | refine sub_sl rfl rfl ?_ ))))); (any_goals (apply okIx_mk; rfl)))); (all_goals (try (first | (simp only; omega)))))
    ))
        all_goals (rw [List.length_append]; rfl)
    · obtain rfl : j = W.length := by omega
      rw [List.take_length, ← hsz]
      (repeat' (first
    | (intro Q h; refine h ?_; clear h Q)
    | (refine bcase_mk (fun hb => ?_) (fun hb => ?_) <;> (try simp only [nS, nT, eq_self, reduceCtorEq] at hb) <;> (try (exfalso; (first | omega ); done)))
    | (apply next_sub (Subtype.mk (z + 1) (by first | omega | (simp only; omega))); (focus (rw [hsz1]; apply le_mk [some 0, some 1, some 2, some 3, some 4]; (focus (iterate 2 (all_goals (repeat' (first | exact fam_same rfl rfl rfl | exact mapa_same plA_flat rfl (fun _ _ => rfl) | exact mapa_same meA_flat rfl (fun _ _ => rfl) | exact sub_map rfl | exact trivial | (intro Q h; refine h ?_; clear h Q) | refine And.intro ?_ ?_ | exact sub_sl rfl rfl rfl | exact sub_refl_val _ _ | exact row_same rfl rfl rfl | ((first | refine sub_int ?_ ); first | with_reducible rfl | omega | ((try simp only [wS]); omega) | rfl) ))))); (any_goals (apply okIx_mk; rfl)))); (all_goals (try (first | (simp only; omega)))))
    ))
  · obtain rfl : z = rs.length := by omega
    (repeat' (first
    | (intro Q h; refine h ?_; clear h Q)
    | (refine bcase_mk (fun hb => ?_) (fun hb => ?_) <;> (try simp only [nS, nT, eq_self, reduceCtorEq] at hb) <;> (try (exfalso; (first | omega ); done)))
    | (apply ret_mk [some 0, some 1, some 2, some 3, some 4]; (focus (iterate 2 (all_goals (repeat' (first | exact fam_same rfl rfl rfl | exact mapa_same plA_flat rfl (fun _ _ => rfl) | exact mapa_same meA_flat rfl (fun _ _ => rfl) | exact trivial | (intro Q h; refine h ?_; clear h Q) | refine And.intro ?_ ?_ | exact sub_sl rfl rfl rfl | exact row_same rfl rfl rfl ))))); (any_goals (apply okIx_mk; rfl)))
    ))
end Go.Vx.L42

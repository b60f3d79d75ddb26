/- Lemmas of a small executor for the model, and contracts of functions, used for the law that this claim proves. No condition. -/
import Derived.Test.YtodbfpjjahpahaaDoorEA2
import Derived.Test.YtodbfpjjahpahaaDoorGB5
set_option linter.unusedSimpArgs false
set_option linter.unusedVariables false
set_option maxRecDepth 100000
namespace Go.Vx.L42
open Go Go.Proofs
theorem codD_six {own : DS} {ps : List (Option DS)} {x : Nat} (h : codD own ps x = 6) : folD own ps = dsAt ps x := by
  unfold codD at h
  by_cases hs : selfD own ps = true
  · rw [if_pos hs] at h; cases h
  · rw [if_neg hs] at h
    by_cases hb : (x : Int) = bstL ps
    · unfold folD; rw [if_neg hs, ← hb, Int.toNat_natCast]
    · rw [if_neg hb] at h
      split at h <;> cases h
theorem folD_none {own : DS} {ps : List (Option DS)} (h : ∀ y, y < ps.length → codD own ps y ≠ 6) : folD own ps = own := by
  unfold folD
  by_cases hs : selfD own ps = true
  · rw [if_pos hs]
  · exfalso
    have hs' := hs
    unfold selfD at hs'
    rw [Bool.or_eq_true, decide_eq_true_eq] at hs'
    obtain ⟨b0, b1⟩ := bst_rg ps ps.length
    rw [show bst ps ps.length = bstL ps from rfl] at b0 b1
    have hb : ¬ bstL ps < 0 := fun e => hs' (.inl e)
    refine h (bstL ps).toNat (by omega) ?_
    unfold codD
    rw [if_neg hs, if_pos (by omega)]
set_option maxHeartbeats 2000000 in
theorem master_ok (own : DS) (ps : List (Option DS)) (cap : Option Nat) (hn : ps.length ≤ 8) (hw : wfP ps) (ho : wfD own) (hcl : 127 < own.cl) :
    Runs Tryd.prog 41 [aD own, .sl 0 12 0 ps.length cap] [pB ps] (Det (aD (folD own ps)) [pB ps]) := by
  have hde := decide_ok own ps cap hn hw ho hcl
  have hcl2 : (codL own ps).length = ps.length := codP_len own ps ps.length
  refine Runs.mk tabOK Tryd.call41 Tryd.func41 rfl Tryd.ntmps41 Tryd.results41 rfl ?_
  (repeat' (first
    | (intro Q h; refine h ?_; clear h Q)
    | (refine bcase_mk (fun hb => ?_) (fun hb => ?_) <;> (try simp only [nS, nT, eq_self, reduceCtorEq] at hb) <;> (try (exfalso; fail; done)))
    | refine seq_go ?_
    | ((first | apply call1 (hde) ); (focus (iterate 2 (all_goals (repeat' (first | exact subL_nil | exact trivial | (intro Q h; refine h ?_; clear h Q) | refine And.intro ?_ ?_ | refine subL_cons ?_ ?_ | refine sub_agg ?_ | exact sub_sl rfl rfl rfl | exact sub_refl_val _ _ | exact row_same rfl rfl rfl ))))); (try (any_goals fail)))
    ))
  refine loop_inv (σ := Nat) (fun x => x ≤ ps.length ∧ ∀ y, y < x → codD own ps y ≠ 6) (fun x => ⟨[(1, .sl 0 12 0 ps.length cap), (2, .ptr 1 11 0 0), (4, .ptr 2 11 0 0), (18, .sl 3 1 0 ps.length none), (19, .val (.int .i64 ps.length)), (20, .val (.int .i64 x))], [pB ps, .var (dC own), .var (dC default), iB true (codL own ps)]⟩) (fun x => ps.length - x) (0) ?_ ?_ ?_
  · exact ⟨by omega, fun y h => by omega⟩
  · (apply le_mk [some 0, some 1, some 2, some 3]; (focus (iterate 2 (all_goals (repeat' (first | exact subL_nil | exact trivial | (intro Q h; refine h ?_; clear h Q) | refine And.intro ?_ ?_ | refine subL_cons ?_ ?_ | refine var_mk ?_ | exact sub_ptr rfl rfl | exact sub_sl rfl rfl rfl | exact sub_refl_val _ _ | exact row_same rfl rfl rfl | exact row_ren rfl rfl rfl ))))); (any_goals (apply okIx_mk; rfl)))
  rintro x ⟨hx, hxe⟩
  by_cases hxl : x < ps.length
  · have hz : 0 + Int.toNat (x : Int) = x := by omega
    have hg : (codL own ps).getD (0 + Int.toNat (x : Int)) 0 = codD own ps x := by rw [hz]; exact codP_get own ps _ _ hxl
    by_cases h6 : codD own ps x = 6
    · have hf := codD_six h6
      rw [← hz] at hf
      rw [h6] at hg
      rw [hf]
      generalize codL own ps = C at *
      (repeat' (first
    | (intro Q h; refine h ?_; clear h Q)
    | (refine bcase_mk (fun hb => ?_) (fun hb => ?_) <;> (try simp only [nS, nT, eq_self, reduceCtorEq] at hb) <;> (try (exfalso; (first | omega ); done)))
    | refine seq_go ?_
    | refine And.intro (by first | omega | ((try simp only [wS]); omega) | rfl | decide) ?_
    | (apply ret_mk [some 0]; (focus (iterate 2 (all_goals (repeat' (first | exact subL_nil | exact trivial | (intro Q h; refine h ?_; clear h Q) | refine And.intro ?_ ?_ | refine subL_cons ?_ ?_ | refine sub_agg ?_ | exact sub_refl_val _ _ | exact row_same rfl rfl rfl ))))); (any_goals (apply okIx_mk; rfl)))
    ))
    · have hxe' : ∀ y, y < x + 1 → codD own ps y ≠ 6 := fun y hy => by
        by_cases h : y = x
        · rw [h]; exact h6
        · exact hxe y (by omega)
      rw [← hg] at h6
      generalize codL own ps = C at *
      (repeat' (first
    | (intro Q h; refine h ?_; clear h Q)
    | (refine bcase_mk (fun hb => ?_) (fun hb => ?_) <;> (try simp only [nS, nT, eq_self, reduceCtorEq] at hb) <;> (try (exfalso; (first | omega ); done)))
    | refine seq_go ?_
    | refine And.intro (by first | omega | ((try simp only [wS]); omega) | rfl | decide) ?_
    | (apply next_sub (Subtype.mk (x + 1) ⟨by omega, hxe'⟩); (focus (apply le_mk [some 0, some 1, some 2, some 3]; (focus (iterate 2 (all_goals (repeat' (first | exact subL_nil | exact trivial | (intro Q h; refine h ?_; clear h Q) | refine And.intro ?_ ?_ | refine subL_cons ?_ ?_ | refine var_mk ?_ | exact sub_ptr rfl rfl | exact sub_sl rfl rfl rfl | exact sub_refl_val _ _ | exact row_same rfl rfl rfl | ((first | refine sub_int ?_ ); first | with_reducible rfl | omega | ((try simp only [wS]); omega) | rfl) ))))); (any_goals (apply okIx_mk; rfl)))); (all_goals (try (first | (simp only; omega)))))
    ))
  · have hx' : x = ps.length := by omega
    subst hx'
    rw [folD_none hxe]
    (repeat' (first
    | (intro Q h; refine h ?_; clear h Q)
    | (refine bcase_mk (fun hb => ?_) (fun hb => ?_) <;> (try simp only [nS, nT, eq_self, reduceCtorEq] at hb) <;> (try (exfalso; (first | omega ); done)))
    | (apply ret_mk [some 0]; (focus (iterate 2 (all_goals (repeat' (first | exact subL_nil | exact trivial | (intro Q h; refine h ?_; clear h Q) | refine And.intro ?_ ?_ | refine subL_cons ?_ ?_ | refine sub_agg ?_ | exact sub_refl_val _ _ | exact row_same rfl rfl rfl ))))); (any_goals (apply okIx_mk; rfl)))
    ))
/-- A node: its identity and its quality. -/
structure Nd where
  id : Int
  p1 : Int
  cl : Int
  ac : Int
  va : Int
  p2 : Int
  deriving DecidableEq, Inhabited
def ndC (c : Nd) : List AV := [.val (.int .u64 c.id), .val (.int .i64 c.p1), .val (.int .i64 c.cl), .val (.int .i64 c.ac), .val (.int .i64 c.va), .val (.int .i64 c.p2)]
instance : FlatC ndC := ⟨fun x v h => by simp [ndC] at h; rcases h with rfl | rfl | rfl | rfl | rfl | rfl <;> trivial⟩
abbrev nd0 : Nd := ⟨0, 0, 0, 0, 0, 0⟩
abbrev ndF (l : List Nd) : Nat → Nat → AV := rowF ndC nd0 l
abbrev ndB (l : List Nd) : Blk := .arr false 32 6 l.length (ndF l)
/-- A node's own data set. -/
def owD (c : Nd) : DS := ⟨c.p1, c.cl, c.ac, c.va, c.p2, c.id, 0, c.id, 0, c.id, 0⟩
theorem own52_ok (c : Nd) : Runs Tryd.prog 52 [.agg [.val (.int .i64 c.p1), .val (.int .i64 c.cl), .val (.int .i64 c.ac), .val (.int .i64 c.va), .val (.int .i64 c.p2)], .val (.int .u64 c.id)] [] (Det (aD (owD c)) []) := by
  refine Runs.mk tabOK Tryd.call52 Tryd.func52 rfl Tryd.ntmps52 Tryd.results52 rfl ?_
  (repeat' (first
    | (intro Q h; refine h ?_; clear h Q)
    | (apply ret_mk []; (focus (iterate 2 (all_goals (repeat' (first | exact subL_nil | exact trivial | refine And.intro ?_ ?_ | refine subL_cons ?_ ?_ | refine sub_agg ?_ | exact sub_refl_val _ _ ))))); (any_goals (apply okIx_mk; rfl)))
    ))
theorem step_ok (d : DS) (s sp r rp : Int) (h0 : 0 ≤ d.st) (h1 : d.st < 32) : Runs Tryd.prog 80 [aD d, .val (.int .u64 s), .val (.int .i64 sp), .val (.int .u64 r), .val (.int .i64 rp)] [] (Det (.tup [aD { d with st := d.st + 1, se := s, sp := sp, re := r, rp := rp }, .val (.int .i64 0)]) []) := by
  refine Runs.mk tabOK Tryd.call80 Tryd.func80 rfl Tryd.ntmps80 Tryd.results80 rfl ?_
  (repeat' (first
    | (intro Q h; refine h ?_; clear h Q)
    | (refine bcase_mk (fun hb => ?_) (fun hb => ?_) <;> (try simp only [nS, nT, eq_self, reduceCtorEq] at hb) <;> (try (exfalso; (first | omega ); done)))
    | refine seq_go ?_
    | (apply ret_mk []; (focus (iterate 2 (all_goals (repeat' (first | exact subL_nil | exact trivial | refine And.intro ?_ ?_ | refine subL_cons ?_ ?_ | refine sub_agg ?_ | refine sub_tup ?_ | exact sub_refl_val _ _ | ((first | refine sub_int ?_ ); first | with_reducible rfl | omega | ((try simp only [wS]); omega) | rfl) ))))); (any_goals (apply okIx_mk; rfl)))
    ))
  all_goals exact cwrap (by omega) (by omega)
/-- Small numbers. -/
def wrd (n : Int) : Bool := decide (0 ≤ n ∧ n ≤ 65535)
theorem words_ok (l : List Int) (cap : Option Nat) (hl : l.length ≤ 1000) : Runs Tryd.prog 27 [.sl 0 1 0 l.length cap] [iB false l] (Det (.sb (l.all wrd)) [iB false l]) := by
  refine Runs.mk tabOK Tryd.call27 Tryd.func27 rfl Tryd.ntmps27 Tryd.results27 rfl ?_
  (repeat' (first
    | (intro Q h; refine h ?_; clear h Q)
    | refine seq_go ?_
    ))
  refine loop_inv (σ := Nat) (fun x => x ≤ l.length ∧ (l.take x).all wrd = true) (fun x => ⟨[(5, .sl 0 1 0 l.length cap), (6, .val (.int .i64 l.length)), (7, .val (.int .i64 x))], [iB false l]⟩) (fun x => l.length - x) (0) ?_ ?_ ?_
  · simp
  · (apply le_mk [some 0]; (focus (iterate 2 (all_goals (repeat' (first | exact trivial | (intro Q h; refine h ?_; clear h Q) | refine And.intro ?_ ?_ | exact sub_sl rfl rfl rfl | exact sub_refl_val _ _ | exact row_same rfl rfl rfl ))))); (any_goals (apply okIx_mk; rfl)))
  rintro x ⟨hx, hxe⟩
  by_cases hxl : x < l.length
  · have hz : 0 + Int.toNat (x : Int) = x := by omega
    have e1 : l.take (x + 1) = l.take x ++ [l.getD x 0] := by
      rw [List.getD_eq_getElem?_getD, List.getElem?_eq_getElem hxl, Option.getD_some]; exact (List.take_append_getElem hxl).symm
    cases hc : wrd (l.getD x 0)
    · have hall : l.all wrd = false := by
        rw [List.all_eq_false]; exact ⟨_, getD_mem l x 0 hxl, by rw [hc]; simp⟩
      rw [hall]
      unfold wrd at hc
      rw [decide_eq_false_iff_not, ← hz] at hc
      (repeat' (first
    | (intro Q h; refine h ?_; clear h Q)
    | (refine bcase_mk (fun hb => ?_) (fun hb => ?_) <;> (try simp only [nS, nT, eq_self, reduceCtorEq] at hb) <;> (try (exfalso; (first | omega ); done)))
    | refine seq_go ?_
    | refine And.intro (by first | omega | ((try simp only [wS]); omega) | rfl | decide) ?_
    | (apply ret_mk [some 0]; (focus (iterate 2 (all_goals (repeat' (first | exact trivial | (intro Q h; refine h ?_; clear h Q) | refine And.intro ?_ ?_ | exact sub_sbl rfl | exact row_same rfl rfl rfl ))))); (any_goals (apply okIx_mk; rfl)))
    ))
    · have hxe' : (l.take (x + 1)).all wrd = true := by rw [e1, List.all_append, hxe, List.all_cons, hc]; rfl
      unfold wrd at hc
      rw [decide_eq_true_eq, ← hz] at hc
      (repeat' (first
    | (intro Q h; refine h ?_; clear h Q)
    | (refine bcase_mk (fun hb => ?_) (fun hb => ?_) <;> (try simp only [nS, nT, eq_self, reduceCtorEq] at hb) <;> (try (exfalso; (first | omega ); done)))
    | refine seq_go ?_
    | refine And.intro (by first | omega | ((try simp only [wS]); omega) | rfl | decide) ?_
    | (apply next_sub (Subtype.mk (x + 1) ⟨by omega, hxe'⟩); (focus (apply le_mk [some 0]; (focus (iterate 2 (all_goals (repeat' (first | exact trivial | (intro Q h; refine h ?_; clear h Q) | refine And.intro ?_ ?_ | exact sub_sl rfl rfl rfl | exact sub_refl_val _ _ | exact row_same rfl rfl rfl | ((first | refine sub_int ?_ ); first | with_reducible rfl | omega | ((try simp only [wS]); omega) | rfl) ))))); (any_goals (apply okIx_mk; rfl)))); (all_goals (try (first | (simp only; omega)))))
    ))
  · rw [List.take_of_length_le (by omega)] at hxe
    rw [hxe]
    (repeat' (first
    | (intro Q h; refine h ?_; clear h Q)
    | (refine bcase_mk (fun hb => ?_) (fun hb => ?_) <;> (try simp only [nS, nT, eq_self, reduceCtorEq] at hb) <;> (try (exfalso; (first | omega ); done)))
    | (apply ret_mk [some 0]; (focus (iterate 2 (all_goals (repeat' (first | exact trivial | (intro Q h; refine h ?_; clear h Q) | refine And.intro ?_ ?_ | exact sub_sbl rfl | exact row_same rfl rfl rfl ))))); (any_goals (apply okIx_mk; rfl)))
    ))
end Go.Vx.L42

/- Lemmas of a small executor for the model, and contracts of functions, used for the law that this claim proves. No condition. -/
import Derived.Test.YtodbfpjjahpahaaGreatDoorDW3
import Derived.Test.YtodbfpjjahpahaaGreatDoorDEA1
import Derived.Test.YtodbfpjjahpahaaGreatDoorDE2
import Derived.Test.YtodbfpjjahpahaaGreatDoorDG3
set_option linter.unusedSimpArgs false
set_option linter.unusedVariables false
set_option maxRecDepth 100000
namespace Go.Vx.L58
open Go Go.Proofs
def pbC (o : Option DS) : List AV := .sb o.isSome :: dC (o.getD default)
instance : FlatC pbC := ⟨fun x v h => by simp [pbC, dC] at h; rcases h with rfl | rfl | rfl | rfl | rfl | rfl | rfl | rfl | rfl | rfl | rfl | rfl <;> trivial⟩
abbrev pbF (l : List (Option DS)) : Nat → Nat → AV := rowF pbC none l
abbrev pB (l : List (Option DS)) : Blk := .arr false 206 12 l.length (pbF l)
def wfP (l : List (Option DS)) : Prop := ∀ i, wfD (dsAt l i) ∧ 0 ≤ (dsAt l i).st ∧ (dsAt l i).st ≤ 1000000
theorem bst_rg (ps : List (Option DS)) (x : Nat) : -1 ≤ bst ps x ∧ bst ps x < x := by
 rcases bst_spec ps x with ⟨h, _⟩ | ⟨h, _⟩ <;> omega
set_option maxHeartbeats 1000000 in
theorem least_ok (ps : List (Option DS)) (cap : Option Nat) (hn : ps.length ≤ 1000) (hw : wfP ps) : Runs Tryz.prog 123 [.sl 0 12 0 ps.length cap] [pB ps] (Det (.val (.int .i64 (bstL ps))) [pB ps]) := by
 refine Runs.mk tabOK Tryz.call123 Tryz.func123 rfl Tryz.ntmps123 Tryz.results123 rfl ?_
 (repeat' (first
  | (intro Q h; refine h ?_; clear h Q)
  | refine seq_go ?_
  ))
 refine loop_inv (σ := Nat) (fun x => x ≤ ps.length) (fun x => ⟨[(0, .sl 0 12 0 ps.length cap), (3, .val (.int .i64 (bst ps x))), (6, .sl 0 12 0 ps.length cap), (7, .val (.int .i64 ps.length)), (8, .val (.int .i64 x))], [pB ps]⟩) (fun x => ps.length - x) (0) ?_ ?_ ?_
 ·omega
 ·(apply le_mk [some 0]; exact AS; any_goals (apply okIx_mk; rfl))
 rintro x hx
 by_cases hxl : x < ps.length
 ·have hz : 0 + Int.toNat (x : Int) = x := by omega
  have hs : bst ps (x + 1) = if hasAt ps x = true ∧ (bst ps x < 0 ∨ lessD (dsAt ps x) (dsAt ps (bst ps x).toNat) = true) then (x : Int) else bst ps x := rfl
  obtain ⟨b0, b1⟩ := bst_rg ps x
  have hl := less_ok (dsAt ps x) (dsAt ps (bst ps x).toNat) (hw _).1 (hw _).1
  have hh : (ps.getD (0 + Int.toNat (x : Int)) none).isSome = hasAt ps x := by rw [hz]
  cases hc : hasAt ps x
  ·rw [hc] at hh
   rw [hc, if_neg (fun h => by cases h.1)] at hs
   generalize bst ps x = b at *
   (repeat' (first
  | (intro Q h; refine h ?_; clear h Q)
  | (refine bcase_mk (fun hb => ?_) (fun hb => ?_) <;> (try simp only [nS, nT, eq_self, reduceCtorEq] at hb) <;> (try (exfalso; (first | omega | (rw [hh] at hb; cases hb)); done)))
  | refine draw_mk (by decide +kernel) ?_
  | refine seq_go ?_
  | refine And.intro (by first | omega | ((try simp only [wS]); omega) | rfl | decide) ?_
  | (rw [hh])
  | (apply next_sub (Subtype.mk (x + 1) (by first | omega | (simp only; omega))); (focus (rw [hs]; apply le_mk [some 0]; exact AS; any_goals (apply okIx_mk; rfl))); (all_goals (try (first | (simp only; omega)))))
  ))
  ·rw [hc] at hh
   have hlt : ∀ y : Int, y < 0 → bst ps x = y → bst ps (x + 1) = x := fun y h1 h2 => by rw [hs, if_pos ⟨hc, .inl (by omega)⟩]
   have hs1 : 0 ≤ bst ps x → lessD (dsAt ps x) (dsAt ps (bst ps x).toNat) = true → bst ps (x + 1) = x := fun h1 h2 => by rw [hs, if_pos ⟨hc, .inr h2⟩]
   have hs0 : 0 ≤ bst ps x → lessD (dsAt ps x) (dsAt ps (bst ps x).toNat) = false → bst ps (x + 1) = bst ps x := fun h1 h2 => by
    rw [hs, if_neg]; rintro ⟨_, h | h⟩
    ·omega
    ·rw [h2] at h; cases h
   clear hs
   generalize bst ps x = b at *
   by_cases hb0 : b < 0
   ·have hs := hlt b hb0 rfl
    (repeat' (first
  | (intro Q h; refine h ?_; clear h Q)
  | (refine bcase_mk (fun hb => ?_) (fun hb => ?_) <;> (try simp only [nS, nT, eq_self, reduceCtorEq] at hb) <;> (try (exfalso; (first | omega | (rw [hh] at hb; cases hb)); done)))
  | refine draw_mk (by decide +kernel) ?_
  | refine seq_go ?_
  | refine And.intro (by first | omega | ((try simp only [wS]); omega) | rfl | decide) ?_
  | (apply next_sub (Subtype.mk (x + 1) (by first | omega | (simp only; omega))); (focus (rw [hs]; apply le_mk [some 0]; exact AS; any_goals (apply okIx_mk; rfl))); (all_goals (try (first | (simp only; omega)))))
  ))
   ·cases hd : lessD (dsAt ps x) (dsAt ps b.toNat)
    ·have hs := hs0 (by omega) hd
     rw [hd] at hl
     rw [← hz, ← Nat.zero_add b.toNat] at hl
     (repeat' (first
  | (intro Q h; refine h ?_; clear h Q)
  | refine bcase_f (by decide) ?_
  | (refine bcase_mk (fun hb => ?_) (fun hb => ?_) <;> (try simp only [nS, nT, eq_self, reduceCtorEq] at hb) <;> (try (exfalso; (first | omega | (rw [hh] at hb; cases hb)); done)))
  | refine draw_mk (by decide +kernel) ?_
  | refine seq_go ?_
  | refine And.intro (by first | omega | ((try simp only [wS]); omega) | rfl | decide) ?_
  | ((first | apply calld0 (hl)); exact AS)
  | (apply next_sub (Subtype.mk (x + 1) (by first | omega | (simp only; omega))); (focus (rw [hs]; apply le_mk [some 0]; exact AS; any_goals (apply okIx_mk; rfl))); (all_goals (try (first | (simp only; omega)))))
  ))
    ·have hs := hs1 (by omega) hd
     rw [hd] at hl
     rw [← hz, ← Nat.zero_add b.toNat] at hl
     (repeat' (first
  | (intro Q h; refine h ?_; clear h Q)
  | refine bcase_t (by first | exact beq_self_eq_true _ | decide) ?_
  | (refine bcase_mk (fun hb => ?_) (fun hb => ?_) <;> (try simp only [nS, nT, eq_self, reduceCtorEq] at hb) <;> (try (exfalso; (first | omega | (rw [hh] at hb; cases hb)); done)))
  | refine draw_mk (by decide +kernel) ?_
  | refine seq_go ?_
  | refine And.intro (by first | omega | ((try simp only [wS]); omega) | rfl | decide) ?_
  | ((first | apply calld0 (hl)); exact AS)
  | (apply next_sub (Subtype.mk (x + 1) (by first | omega | (simp only; omega))); (focus (rw [hs]; apply le_mk [some 0]; exact AS; any_goals (apply okIx_mk; rfl))); (all_goals (try (first | (simp only; omega)))))
  ))
 ·have hx' : x = ps.length := by omega
  subst hx'
  rw [show bst ps ps.length = bstL ps from rfl]
  (repeat' (first
  | (intro Q h; refine h ?_; clear h Q)
  | (refine bcase_mk (fun hb => ?_) (fun hb => ?_) <;> (try simp only [nS, nT, eq_self, reduceCtorEq] at hb) <;> (try (exfalso; omega)))
  | (apply ret_mk [some 0]; exact AS; any_goals (apply okIx_mk; rfl))
  ))
theorem further_ok (b own h : DS) (i : Nat) (hi : i < 1000) (hs : 0 ≤ b.st ∧ b.st ≤ 1000000) : Runs Tryz.prog 125 [aD b, aD own, .val (.int .i64 ((i : Int) + 1)), aD h] [] (Det (aD (furD b own i h)) []) := by
 refine Runs.mk tabOK Tryz.call125 Tryz.func125 rfl Tryz.ntmps125 Tryz.results125 rfl ?_
 (repeat' (first
  | (intro Q h; refine h ?_; clear h Q)
  | (refine bcase_mk (fun hb => ?_) (fun hb => ?_) <;> (try simp only [nS, nT, eq_self, reduceCtorEq] at hb) <;> (try (exfalso; omega)))
  | refine seq_go ?_
  | (apply ret_mk []; (focus (iterate 2 (all_goals (repeat' (first | exact subL_nil | exact trivial | refine And.intro ?_ ?_ | refine subL_cons ?_ ?_ | refine sub_agg ?_ | exact sub_refl_val _ _ | refine sub_int ?_ ))))); any_goals (apply okIx_mk; rfl))
  ))
 all_goals exact cwrap (by omega) (by omega)
theorem isBest_ok (i b : Int) : Runs Tryz.prog 124 [.val (.int .i64 i), .ptr 0 1 0 0] [.var [.val (.int .i64 b)]] (Det (.sb (decide (i = b))) [.var [.val (.int .i64 b)]]) := by
 refine Runs.mk tabOK Tryz.call124 Tryz.func124 rfl Tryz.ntmps124 Tryz.results124 rfl ?_
 (repeat' (first
  | (intro Q h; refine h ?_; clear h Q)
  | (apply ret_mk [some 0]; exact AS; any_goals (apply okIx_mk; rfl))
  ))
 all_goals first | rfl | fail
theorem ann_ok (c : Int) : Runs Tryz.prog 121 [.val (.int .i64 c)] [] (Det (.sb (ann c)) []) := by
 refine Runs.mk tabOK Tryz.call121 Tryz.func121 rfl Tryz.ntmps121 Tryz.results121 rfl ?_
 (repeat' (first
  | (intro Q h; refine h ?_; clear h Q)
  | (refine bcase_mk (fun hb => ?_) (fun hb => ?_) <;> (try simp only [nS, nT, eq_self, reduceCtorEq] at hb) <;> (try (exfalso; fail; done)))
  | (apply ret_mk []; (focus (iterate 2 (all_goals (repeat' (first | exact trivial | refine And.intro ?_ ?_ | refine sub_sb ?_ | refine sub_sbl ?_ ))))); any_goals (apply okIx_mk; rfl))
  ))
 all_goals (unfold ann; first | (simp_all; done) | (simp_all; rfl))
def codP (own : DS) (ps : List (Option DS)) : Nat → List Int
 | 0 => []
 | x + 1 => codP own ps x ++ [codD own ps x]
theorem codP_len (own : DS) (ps : List (Option DS)) : ∀ x, (codP own ps x).length = x
 | 0 => rfl
 | x + 1 => by rw [codP, List.length_append, codP_len own ps x]; rfl
theorem codP_get (own : DS) (ps : List (Option DS)) : ∀ x y, y < x → (codP own ps x).getD y 0 = codD own ps y
 | 0, y, h => by omega
 | x + 1, y, h => by
  rw [codP, List.getD_eq_getElem?_getD]
  have hl := codP_len own ps x
  by_cases hy : y < x
  ·rw [List.getElem?_append_left (by omega), ← List.getD_eq_getElem?_getD, codP_get own ps x y hy]
  ·have : y = x := by omega
   subst this
   rw [List.getElem?_append_right (by omega), hl, Nat.sub_self]; rfl
abbrev codL (own : DS) (ps : List (Option DS)) : List Int := codP own ps ps.length
theorem wf_fur {b own h : DS} {i : Nat} (hb : wfD b) (ho : wfD own) (hh : wfD h) (hi : i < 1000) (hs : 0 ≤ b.st ∧ b.st ≤ 1000000) : wfD (furD b own i h) := by
 obtain ⟨h0, h1, h2, h3, h4, h5, h6, h7, h8, h9, h10⟩ := hb
 refine ⟨h0, h1, h2, h3, h4, h5, ?_, ho.se, ?_, hh.re, ?_⟩
 ·show inI (b.st + 1); unfold inI; omega
 ·show inI ((i : Int) + 1); unfold inI; omega
 ·show inI ((i : Int) + 1); unfold inI; omega
set_option maxHeartbeats 4000000 in
theorem decide_ok (own : DS) (ps : List (Option DS)) (cap : Option Nat) (hn : ps.length ≤ 8) (hw : wfP ps) (ho : wfD own) (hcl : 127 < own.cl) :
  Runs Tryz.prog 83 [aD own, .sl 0 12 0 ps.length cap] [pB ps] (Det (.tup [.sl 1 1 0 ps.length none, .val (.int .i64 0)]) [pB ps, iB true (codL own ps)]) := by
 have hle := least_ok ps cap (by omega) hw
 obtain ⟨b0, b1⟩ := bst_rg ps ps.length
 rw [show bst ps ps.length = bstL ps from rfl] at b0 b1
 have hcl2 := codP_len own ps
 refine Runs.mk tabOK Tryz.call83 Tryz.func83 rfl Tryz.ntmps83 Tryz.results83 rfl ?_
 (repeat' (first
  | (intro Q h; refine h ?_; clear h Q)
  | (refine bcase_mk (fun hb => ?_) (fun hb => ?_) <;> (try simp only [nS, nT, eq_self, reduceCtorEq] at hb) <;> (try (exfalso; omega)))
  | refine seq_go ?_
  | refine And.intro (by first | omega | ((try simp only [wS]); omega) | rfl | decide) ?_
  | ((first | apply call1 (hle) ); exact AS; (try (any_goals fail)))
  ))
 refine loop_inv (σ := Nat) (fun x => x ≤ ps.length) (fun x => ⟨[(1, .sl 0 12 0 ps.length cap), (2, .ptr 1 11 0 0), (6, .ptr 2 1 0 0), (7, .fn (.func 124) [.ptr 2 1 0 0]), (8, .sl 3 1 0 x none), (21, .sl 0 12 0 ps.length cap), (22, .val (.int .i64 ps.length)), (23, .val (.int .i64 x))], [pB ps, .var (dC own), .var [.val (.int .i64 (bstL ps))], iB true (codP own ps x)]⟩) (fun x => ps.length - x) (0) ?_ ?_ ?_
 ·omega
 ·(apply le_mk [some 0, some 1, some 2, some 3]; (focus (iterate 2 (all_goals (repeat' (first | exact subL_nil | exact trivial | (intro Q h; refine h ?_; clear h Q) | refine And.intro ?_ ?_ | refine subL_cons ?_ ?_ | refine sub_fn ?_ | refine var_mk ?_ | exact sub_ptr rfl rfl | exact sub_sl rfl rfl rfl | exact sub_refl_val _ _ | exact row_same rfl rfl rfl ))))); any_goals (apply okIx_mk; rfl))
  all_goals exact row_is (L' := []) isrow_nil rfl rfl
 rintro x hx
 have hlx := hcl2 x
 have hsx : codP own ps (x + 1) = codP own ps x ++ [codD own ps x] := rfl
 by_cases hxl : x < ps.length
 ·have hz : 0 + Int.toNat (x : Int) = x := by omega
  generalize codP own ps x = C at *
  cases hS : selfD own ps
  ·have hS' := hS
   unfold selfD at hS'
   rw [Bool.or_eq_false_iff, decide_eq_false_iff_not] at hS'
   obtain ⟨s1, s2⟩ := hS'
   have hl1 := less_ok own (dsAt ps (bstL ps).toNat) ho (hw _).1
   rw [s2] at hl1
   have hwf := wf_fur (i := x) (hw (bstL ps).toNat).1 ho (hw x).1 (by omega) (hw (bstL ps).toNat).2
   have hfu := further_ok (dsAt ps (bstL ps).toNat) own (dsAt ps x) x (by omega) (hw _).2
   have hl2 := less_ok _ (dsAt ps x) hwf (hw x).1
   have hco : codD own ps x = if (x : Int) = bstL ps then 6 else if hasAt ps x = false ∨ lessD (furD (dsAt ps (bstL ps).toNat) own x (dsAt ps x)) (dsAt ps x) = true then 3 else 5 := by
    unfold codD; rw [if_neg (by rw [hS]; simp)]
   have hib := isBest_ok x (bstL ps)
   by_cases hxb : (x : Int) = bstL ps
   ·rw [if_pos hxb] at hco
    rw [hco] at hsx
    rw [decide_eq_true hxb] at hib
    clear hl2 hfu hwf hco
    generalize bstL ps = b at *
    rw [← Nat.zero_add b.toNat] at hl1
    (repeat' (first
  | (intro Q h; refine h ?_; clear h Q)
  | (with_reducible refine bcase_true ?_)
  | (with_reducible refine bcase_false ?_)
  | (refine bcase_mk (fun hb => ?_) (fun hb => ?_) <;> (try simp only [nS, nT, eq_self, reduceCtorEq] at hb) <;> (try (exfalso; omega)))
  | refine draw_mk (by decide +kernel) ?_
  | refine seq_go ?_
  | refine And.intro (by first | omega | ((try simp only [wS]); omega) | rfl | decide) ?_
  | ((first | apply calld0 (hl1)); exact AS)
  | ((first | apply call1 (hib) ); exact AS; (try (any_goals fail)))
  | (apply next_sub (Subtype.mk (x + 1) (by first | omega | (simp only; omega))); (focus (rw [hsx]; apply le_mk [some 0, some 1, some 2, some _]; exact AS; any_goals (apply okIx_mk; rfl))); (all_goals (try (first | (simp only; omega)))))
  ))
   ·rw [if_neg hxb] at hco
    rw [decide_eq_false hxb] at hib
    cases hc : hasAt ps x
    ·rw [if_pos (.inl hc)] at hco
     rw [hco] at hsx
     have hh : (ps.getD (0 + Int.toNat (x : Int)) none).isSome = false := by rw [hz]; exact hc
     clear hl2 hfu hwf hco
     generalize bstL ps = b at *
     rw [← Nat.zero_add b.toNat] at hl1
     (repeat' (first
  | (intro Q h; refine h ?_; clear h Q)
  | (with_reducible refine bcase_false ?_)
  | (refine bcase_mk (fun hb => ?_) (fun hb => ?_) <;> (try simp only [nS, nT, eq_self, reduceCtorEq] at hb) <;> (try (exfalso; (first | omega | (rw [hh] at hb; cases hb)); done)))
  | refine draw_mk (by decide +kernel) ?_
  | refine seq_go ?_
  | refine And.intro (by first | omega | ((try simp only [wS]); omega) | rfl | decide) ?_
  | ((first | apply calld0 (hl1)); exact AS)
  | ((first | apply call1 (hib) ); exact AS; (try (any_goals fail)))
  | (apply next_sub (Subtype.mk (x + 1) (by first | omega | (simp only; omega))); (focus (rw [hsx]; apply le_mk [some 0, some 1, some 2, some _]; exact AS; any_goals (apply okIx_mk; rfl))); (all_goals (try (first | (simp only; omega)))))
  ))
    ·have hh : (ps.getD (0 + Int.toNat (x : Int)) none).isSome = true := by rw [hz]; exact hc
     cases hd : lessD (furD (dsAt ps (bstL ps).toNat) own x (dsAt ps x)) (dsAt ps x)
     ·rw [if_neg (by rw [hc, hd]; simp)] at hco
      rw [hco] at hsx
      rw [hd] at hl2
      clear hwf hco hd
      generalize bstL ps = b at *
      have hfu' : Runs Tryz.prog 125 [aD (dsAt ps (0 + b.toNat)), aD own, .val (.int .i64 ((x : Int) + 1)), aD (dsAt ps (0 + Int.toNat (x : Int)))] [] (Det (aD (furD (dsAt ps b.toNat) own x (dsAt ps x))) []) := by rw [hz, Nat.zero_add]; exact hfu
      clear hfu
      generalize furD (dsAt ps b.toNat) own x (dsAt ps x) = F at *
      rw [← Nat.zero_add b.toNat] at hl1
      rw [← hz] at hl2
      (repeat' (first
  | (intro Q h; refine h ?_; clear h Q)
  | (with_reducible refine bcase_false ?_)
  | (refine bcase_mk (fun hb => ?_) (fun hb => ?_) <;> (try simp only [nS, nT, eq_self, reduceCtorEq] at hb) <;> (try (exfalso; (first | omega | (rw [hh] at hb; cases hb)); done)))
  | refine draw_mk (by decide +kernel) ?_
  | refine seq_go ?_
  | refine And.intro (by first | omega | ((try simp only [wS]); omega) | rfl | decide) ?_
  | ((first | apply calld0 (hl1)); exact AS)
  | ((first | apply call1 (hib) ); exact AS; (try (any_goals fail)))
  | ((first | apply calld0 (hfu')); exact AS)
  | ((first | apply calld0 (hl2)); exact AS)
  | (apply next_sub (Subtype.mk (x + 1) (by first | omega | (simp only; omega))); (focus (rw [hsx]; apply le_mk [some 0, some 1, some 2, some _]; exact AS; any_goals (apply okIx_mk; rfl))); (all_goals (try (first | (simp only; omega)))))
  ))
     ·rw [if_pos (.inr hd)] at hco
      rw [hco] at hsx
      rw [hd] at hl2
      clear hwf hco hd
      generalize bstL ps = b at *
      have hfu' : Runs Tryz.prog 125 [aD (dsAt ps (0 + b.toNat)), aD own, .val (.int .i64 ((x : Int) + 1)), aD (dsAt ps (0 + Int.toNat (x : Int)))] [] (Det (aD (furD (dsAt ps b.toNat) own x (dsAt ps x))) []) := by rw [hz, Nat.zero_add]; exact hfu
      clear hfu
      generalize furD (dsAt ps b.toNat) own x (dsAt ps x) = F at *
      rw [← Nat.zero_add b.toNat] at hl1
      rw [← hz] at hl2
      (repeat' (first
  | (intro Q h; refine h ?_; clear h Q)
  | (with_reducible refine bcase_true ?_)
  | (with_reducible refine bcase_false ?_)
  | (refine bcase_mk (fun hb => ?_) (fun hb => ?_) <;> (try simp only [nS, nT, eq_self, reduceCtorEq] at hb) <;> (try (exfalso; (first | omega | (rw [hh] at hb; cases hb)); done)))
  | refine draw_mk (by decide +kernel) ?_
  | refine seq_go ?_
  | refine And.intro (by first | omega | ((try simp only [wS]); omega) | rfl | decide) ?_
  | ((first | apply calld0 (hl1)); exact AS)
  | ((first | apply call1 (hib) ); exact AS; (try (any_goals fail)))
  | ((first | apply calld0 (hfu')); exact AS)
  | ((first | apply calld0 (hl2)); exact AS)
  | (apply next_sub (Subtype.mk (x + 1) (by first | omega | (simp only; omega))); (focus (rw [hsx]; apply le_mk [some 0, some 1, some 2, some _]; exact AS; any_goals (apply okIx_mk; rfl))); (all_goals (try (first | (simp only; omega)))))
  ))
  ·have hco : codD own ps x = 2 := by unfold codD; rw [if_pos hS]
   rw [hco] at hsx
   unfold selfD at hS
   rw [Bool.or_eq_true, decide_eq_true_eq] at hS
   by_cases hb0 : bstL ps < 0
   ·clear hS hco
    generalize bstL ps = b at *
    (repeat' (first
  | (intro Q h; refine h ?_; clear h Q)
  | (refine bcase_mk (fun hb => ?_) (fun hb => ?_) <;> (try simp only [nS, nT, eq_self, reduceCtorEq] at hb) <;> (try (exfalso; omega)))
  | refine draw_mk (by decide +kernel) ?_
  | refine seq_go ?_
  | refine And.intro (by first | omega | ((try simp only [wS]); omega) | rfl | decide) ?_
  | (apply next_sub (Subtype.mk (x + 1) (by first | omega | (simp only; omega))); (focus (rw [hsx]; apply le_mk [some 0, some 1, some 2, some _]; exact AS; any_goals (apply okIx_mk; rfl))); (all_goals (try (first | (simp only; omega)))))
  ))
   ·have s2 := hS.resolve_left hb0
    have hl1 := less_ok own (dsAt ps (bstL ps).toNat) ho (hw _).1
    rw [s2] at hl1
    clear hS hco s2
    generalize bstL ps = b at *
    rw [← Nat.zero_add b.toNat] at hl1
    (repeat' (first
  | (intro Q h; refine h ?_; clear h Q)
  | (with_reducible refine bcase_true ?_)
  | (refine bcase_mk (fun hb => ?_) (fun hb => ?_) <;> (try simp only [nS, nT, eq_self, reduceCtorEq] at hb) <;> (try (exfalso; omega)))
  | refine draw_mk (by decide +kernel) ?_
  | refine seq_go ?_
  | refine And.intro (by first | omega | ((try simp only [wS]); omega) | rfl | decide) ?_
  | ((first | apply calld0 (hl1)); exact AS)
  | (apply next_sub (Subtype.mk (x + 1) (by first | omega | (simp only; omega))); (focus (rw [hsx]; apply le_mk [some 0, some 1, some 2, some _]; exact AS; any_goals (apply okIx_mk; rfl))); (all_goals (try (first | (simp only; omega)))))
  ))
 ·have hx' : x = ps.length := by omega
  subst hx'
  (repeat' (first
  | (intro Q h; refine h ?_; clear h Q)
  | (refine bcase_mk (fun hb => ?_) (fun hb => ?_) <;> (try simp only [nS, nT, eq_self, reduceCtorEq] at hb) <;> (try (exfalso; omega)))
  | (apply ret_mk [some 0, some 3]; exact AS; any_goals (apply okIx_mk; rfl))
  ))
end Go.Vx.L58

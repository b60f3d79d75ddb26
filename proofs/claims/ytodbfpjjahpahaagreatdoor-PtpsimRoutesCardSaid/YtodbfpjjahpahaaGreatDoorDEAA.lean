/- Lemmas of a small executor for the model, and contracts of functions, used for the law that this claim proves. No condition. -/
import Derived.Test.YtodbfpjjahpahaaGreatDoorDW3
import Derived.Test.YtodbfpjjahpahaaGreatDoorDEA2
import Derived.Test.YtodbfpjjahpahaaGreatDoorDGB5
set_option linter.unusedSimpArgs false
set_option linter.unusedVariables false
set_option maxRecDepth 100000
namespace Go.Vx.L58
open Go Go.Proofs
theorem codD_six {own : DS} {ps : List (Option DS)} {x : Nat} (h : codD own ps x = 6) : folD own ps = dsAt ps x := by
 unfold codD at h
 by_cases hs : selfD own ps = true
 ·rw [if_pos hs] at h; cases h
 ·rw [if_neg hs] at h
  by_cases hb : (x : Int) = bstL ps
  ·unfold folD; rw [if_neg hs, ← hb, Int.toNat_natCast]
  ·rw [if_neg hb] at h
   split at h <;> cases h
theorem folD_none {own : DS} {ps : List (Option DS)} (h : ∀ y, y < ps.length → codD own ps y ≠ 6) : folD own ps = own := by
 unfold folD
 by_cases hs : selfD own ps = true
 ·rw [if_pos hs]
 ·exfalso
  have hs' := hs
  unfold selfD at hs'
  rw [Bool.or_eq_true, decide_eq_true_eq] at hs'
  obtain ⟨b0, b1⟩ := bst_rg ps ps.length
  rw [show bst ps ps.length = bstL ps from rfl] at b0 b1
  have hb : ¬ bstL ps < 0 := fun e => hs' (.inl e)
  refine h (bstL ps).toNat (by omega) ?_
  unfold codD
  rw [if_neg hs, if_pos (by omega)]
set_option maxHeartbeats 2000000 in
theorem master_ok (own : DS) (ps : List (Option DS)) (cap : Option Nat) (hn : ps.length ≤ 8) (hw : wfP ps) (ho : wfD own) (hcl : 127 < own.cl) :
  Runs Tryz.prog 120 [aD own, .sl 0 12 0 ps.length cap] [pB ps] (Det (aD (folD own ps)) [pB ps]) := by
 have hde := decide_ok own ps cap hn hw ho hcl
 have hcl2 : (codL own ps).length = ps.length := codP_len own ps ps.length
 refine Runs.mk tabOK Tryz.call120 Tryz.func120 rfl Tryz.ntmps120 Tryz.results120 rfl ?_
 (repeat' (first
  | (intro Q h; refine h ?_; clear h Q)
  | (refine bcase_mk (fun hb => ?_) (fun hb => ?_) <;> (try simp only [nS, nT, eq_self, reduceCtorEq] at hb) <;> (try (exfalso; fail; done)))
  | refine seq_go ?_
  | ((first | apply call1 (hde) ); exact AS; (try (any_goals fail)))
  ))
 refine loop_inv (σ := Nat) (fun x => x ≤ ps.length ∧ ∀ y, y < x → codD own ps y ≠ 6) (fun x => ⟨[(1, .sl 0 12 0 ps.length cap), (2, .ptr 1 11 0 0), (4, .ptr 2 11 0 0), (18, .sl 3 1 0 ps.length none), (19, .val (.int .i64 ps.length)), (20, .val (.int .i64 x))], [pB ps, .var (dC own), .var (dC default), iB true (codL own ps)]⟩) (fun x => ps.length - x) (0) ?_ ?_ ?_
 ·exact ⟨by omega, fun y h => by omega⟩
 ·(apply le_mk [some 0, some 1, some 2, some 3]; exact AS; any_goals (apply okIx_mk; rfl))
 rintro x ⟨hx, hxe⟩
 by_cases hxl : x < ps.length
 ·have hz : 0 + Int.toNat (x : Int) = x := by omega
  have hg : (codL own ps).getD (0 + Int.toNat (x : Int)) 0 = codD own ps x := by rw [hz]; exact codP_get own ps _ _ hxl
  by_cases h6 : codD own ps x = 6
  ·have hf := codD_six h6
   rw [← hz] at hf
   rw [h6] at hg
   rw [hf]
   generalize codL own ps = C at *
   (repeat' (first
  | (intro Q h; refine h ?_; clear h Q)
  | (refine bcase_mk (fun hb => ?_) (fun hb => ?_) <;> (try simp only [nS, nT, eq_self, reduceCtorEq] at hb) <;> (try (exfalso; omega)))
  | refine seq_go ?_
  | refine And.intro (by first | omega | ((try simp only [wS]); omega) | rfl | decide) ?_
  | (apply ret_mk [some 0]; exact AS; any_goals (apply okIx_mk; rfl))
  ))
  ·have hxe' : ∀ y, y < x + 1 → codD own ps y ≠ 6 := fun y hy => by
    by_cases h : y = x
    ·rw [h]; exact h6
    ·exact hxe y (by omega)
   rw [← hg] at h6
   generalize codL own ps = C at *
   (repeat' (first
  | (intro Q h; refine h ?_; clear h Q)
  | (refine bcase_mk (fun hb => ?_) (fun hb => ?_) <;> (try simp only [nS, nT, eq_self, reduceCtorEq] at hb) <;> (try (exfalso; omega)))
  | refine seq_go ?_
  | refine And.intro (by first | omega | ((try simp only [wS]); omega) | rfl | decide) ?_
  | (apply next_sub (Subtype.mk (x + 1) ⟨by omega, hxe'⟩); (focus (apply le_mk [some 0, some 1, some 2, some 3]; exact AS; any_goals (apply okIx_mk; rfl))); (all_goals (try (first | (simp only; omega)))))
  ))
 ·have hx' : x = ps.length := by omega
  subst hx'
  rw [folD_none hxe]
  (repeat' (first
  | (intro Q h; refine h ?_; clear h Q)
  | (refine bcase_mk (fun hb => ?_) (fun hb => ?_) <;> (try simp only [nS, nT, eq_self, reduceCtorEq] at hb) <;> (try (exfalso; omega)))
  | (apply ret_mk [some 0]; exact AS; any_goals (apply okIx_mk; rfl))
  ))
structure Nd where
 id : Int
 p1 : Int
 cl : Int
 ac : Int
 va : Int
 p2 : Int
 deriving DecidableEq, Inhabited
def ndC (c : Nd) : List AV := [.val (.int .u64 c.id), .val (.int .i64 c.p1), .val (.int .i64 c.cl), .val (.int .i64 c.ac), .val (.int .i64 c.va), .val (.int .i64 c.p2)]
instance : FlatC ndC := ⟨fun x v h => by simp [ndC] at h; rcases h with rfl | rfl | rfl | rfl | rfl | rfl <;> trivial⟩
abbrev nd0 : Nd := ⟨0, 0, 0, 0, 0, 0⟩
abbrev ndF (l : List Nd) : Nat → Nat → AV := rowF ndC nd0 l
abbrev ndB (l : List Nd) : Blk := .arr false 93 6 l.length (ndF l)
def owD (c : Nd) : DS := ⟨c.p1, c.cl, c.ac, c.va, c.p2, c.id, 0, c.id, 0, c.id, 0⟩
theorem own52_ok (c : Nd) : Runs Tryz.prog 79 [.agg [.val (.int .i64 c.p1), .val (.int .i64 c.cl), .val (.int .i64 c.ac), .val (.int .i64 c.va), .val (.int .i64 c.p2)], .val (.int .u64 c.id)] [] (Det (aD (owD c)) []) := by
 refine Runs.mk tabOK Tryz.call79 Tryz.func79 rfl Tryz.ntmps79 Tryz.results79 rfl ?_
 (repeat' (first
  | (intro Q h; refine h ?_; clear h Q)
  | (apply ret_mk []; exact AS; any_goals (apply okIx_mk; rfl))
  ))
theorem step_ok (d : DS) (s sp r rp : Int) (h0 : 0 ≤ d.st) (h1 : d.st < 32) : Runs Tryz.prog 151 [aD d, .val (.int .u64 s), .val (.int .i64 sp), .val (.int .u64 r), .val (.int .i64 rp)] [] (Det (.tup [aD { d with st := d.st + 1, se := s, sp := sp, re := r, rp := rp }, .val (.int .i64 0)]) []) := by
 refine Runs.mk tabOK Tryz.call151 Tryz.func151 rfl Tryz.ntmps151 Tryz.results151 rfl ?_
 (repeat' (first
  | (intro Q h; refine h ?_; clear h Q)
  | (refine bcase_mk (fun hb => ?_) (fun hb => ?_) <;> (try simp only [nS, nT, eq_self, reduceCtorEq] at hb) <;> (try (exfalso; omega)))
  | refine seq_go ?_
  | (apply ret_mk []; exact AS; any_goals (apply okIx_mk; rfl))
  ))
 all_goals exact cwrap (by omega) (by omega)
def wrd (n : Int) : Bool := decide (0 ≤ n ∧ n ≤ 65535)
theorem words_ok (l : List Int) (cap : Option Nat) (hl : l.length ≤ 1000) : Runs Tryz.prog 66 [.sl 0 1 0 l.length cap] [iB false l] (Det (.sb (l.all wrd)) [iB false l]) := by
 refine Runs.mk tabOK Tryz.call66 Tryz.func66 rfl Tryz.ntmps66 Tryz.results66 rfl ?_
 (repeat' (first
  | (intro Q h; refine h ?_; clear h Q)
  | refine seq_go ?_
  ))
 refine loop_inv (σ := Nat) (fun x => x ≤ l.length ∧ (l.take x).all wrd = true) (fun x => ⟨[(5, .sl 0 1 0 l.length cap), (6, .val (.int .i64 l.length)), (7, .val (.int .i64 x))], [iB false l]⟩) (fun x => l.length - x) (0) ?_ ?_ ?_
 ·simp
 ·(apply le_mk [some 0]; exact AS; any_goals (apply okIx_mk; rfl))
 rintro x ⟨hx, hxe⟩
 by_cases hxl : x < l.length
 ·have hz : 0 + Int.toNat (x : Int) = x := by omega
  have e1 : l.take (x + 1) = l.take x ++ [l.getD x 0] := by
   rw [List.getD_eq_getElem?_getD, List.getElem?_eq_getElem hxl, Option.getD_some]; exact (List.take_append_getElem hxl).symm
  cases hc : wrd (l.getD x 0)
  ·have hall : l.all wrd = false := by
    rw [List.all_eq_false]; exact ⟨_, getD_mem l x 0 hxl, by rw [hc]; simp⟩
   rw [hall]
   unfold wrd at hc
   rw [decide_eq_false_iff_not, ← hz] at hc
   (repeat' (first
  | (intro Q h; refine h ?_; clear h Q)
  | (refine bcase_mk (fun hb => ?_) (fun hb => ?_) <;> (try simp only [nS, nT, eq_self, reduceCtorEq] at hb) <;> (try (exfalso; omega)))
  | refine seq_go ?_
  | refine And.intro (by first | omega | ((try simp only [wS]); omega) | rfl | decide) ?_
  | (apply ret_mk [some 0]; exact AS; any_goals (apply okIx_mk; rfl))
  ))
  ·have hxe' : (l.take (x + 1)).all wrd = true := by rw [e1, List.all_append, hxe, List.all_cons, hc]; rfl
   unfold wrd at hc
   rw [decide_eq_true_eq, ← hz] at hc
   (repeat' (first
  | (intro Q h; refine h ?_; clear h Q)
  | (refine bcase_mk (fun hb => ?_) (fun hb => ?_) <;> (try simp only [nS, nT, eq_self, reduceCtorEq] at hb) <;> (try (exfalso; omega)))
  | refine seq_go ?_
  | refine And.intro (by first | omega | ((try simp only [wS]); omega) | rfl | decide) ?_
  | (apply next_sub (Subtype.mk (x + 1) ⟨by omega, hxe'⟩); (focus (apply le_mk [some 0]; exact AS; any_goals (apply okIx_mk; rfl))); (all_goals (try (first | (simp only; omega)))))
  ))
 ·rw [List.take_of_length_le (by omega)] at hxe
  rw [hxe]
  (repeat' (first
  | (intro Q h; refine h ?_; clear h Q)
  | (refine bcase_mk (fun hb => ?_) (fun hb => ?_) <;> (try simp only [nS, nT, eq_self, reduceCtorEq] at hb) <;> (try (exfalso; omega)))
  | (apply ret_mk [some 0]; exact AS; any_goals (apply okIx_mk; rfl))
  ))
end Go.Vx.L58
set_option maxRecDepth 100000
namespace Go.Vx.L58
open Go Go.Proofs
abbrev plA (v : Int × Int) : AV := .agg [.val (.int .i64 v.1), .val (.int .i64 v.2)]
structure Mm where
 node : Int
 port : Int
 age : Int
 set : DS
 deriving DecidableEq, Inhabited
abbrev meA (m : Mm) : AV := .agg (.val (.int .i64 m.node) :: .val (.int .i64 m.port) :: .val (.int .i64 m.age) :: dC m.set)
theorem plA_flat {g : List Int → Int × Int} : ∀ x, FlatA ((fun k => plA (g k)) x) := fun x => by
 simp [FlatA, flatV]
theorem meA_flat {g : List Int → Mm} : ∀ x, FlatA ((fun k => meA (g k)) x) := fun x => by
 simp [FlatA, flatV]
structure MS where
 ks : List (List Int)
 g : List Int → Mm
abbrev mB (s : MS) : Blk := .map (some 2) s.ks (fun k => meA (s.g k))
abbrev peB (pk : List (List Int)) (gp : List Int → Int × Int) : Blk := .map (some 2) pk (fun k => plA (gp k))
abbrev aF (ns : List Nd) (cap : Option Nat) (rs : List (List Int)) : AV := .agg [.sl 0 6 0 ns.length cap, .sl 1 1 0 rs.length none, .map 2]
abbrev fB (ns : List Nd) (rs : List (List Int)) (pk : List (List Int)) (gp : List Int → Int × Int) : List Blk := [ndB ns, nR rs.length rs, peB pk gp]
theorem own_ok (ns : List Nd) (cap : Option Nat) (rs pk : List (List Int)) (gp : List Int → Int × Int) (x : Nat) (hx : x < ns.length) :
  Runs Tryz.prog 38 [aF ns cap rs, .val (.int .i64 x)] (fB ns rs pk gp) (Det (aD (owD (ns.getD x nd0))) (fB ns rs pk gp)) := by
 have hz : 0 + Int.toNat (x : Int) = x := by omega
 have h := own52_ok (ns.getD x nd0)
 generalize hO : owD (ns.getD x nd0) = O at *
 rw [← hz] at h
 refine Runs.mk tabOK Tryz.call38 Tryz.func38 rfl Tryz.ntmps38 Tryz.results38 rfl ?_
 (repeat' (first
  | (intro Q h; refine h ?_; clear h Q)
  | refine draw_mk (by decide +kernel) ?_
  | refine seq_go ?_
  | refine And.intro (by first | omega | ((try simp only [wS]); omega) | rfl | decide) ?_
  | ((first | apply calld0 (h)); exact AS)
  | (apply ret_mk [some 0, some 1, some 2]; (focus (iterate 2 (all_goals (repeat' (first | exact fam_same rfl rfl rfl | exact mapa_same plA_flat rfl (fun _ _ => rfl) | exact subL_nil | exact trivial | (intro Q h; refine h ?_; clear h Q) | refine And.intro ?_ ?_ | refine subL_cons ?_ ?_ | refine sub_agg ?_ | exact sub_refl_val _ _ | exact row_same rfl rfl rfl ))))); any_goals (apply okIx_mk; rfl))
  ))
def hrX (s : MS) (n : Int) (x : Nat) : List (Option DS) := (List.range 8).map fun i => if i < x ∧ s.ks.contains [n, ((i + 1 : Nat) : Int)] = true then some (s.g [n, ((i + 1 : Nat) : Int)]).set else none
theorem hrX_len (s : MS) (n : Int) (x : Nat) : (hrX s n x).length = 8 := by simp [hrX]
theorem hrX_yes (s : MS) (n : Int) (x : Nat) (hx : x < 8) (h : s.ks.contains [n, ((x + 1 : Nat) : Int)] = true) : hrX s n (x + 1) = (hrX s n x).set x (some (s.g [n, ((x + 1 : Nat) : Int)]).set) := by
 apply List.ext_getElem (by simp [hrX])
 intro i h1 h2
 rw [List.getElem_set]
 by_cases hi : x = i
 ·subst hi
  rw [if_pos rfl]
  simp only [hrX, List.getElem_map, List.getElem_range]
  rw [if_pos ⟨by omega, h⟩]
 ·rw [if_neg hi]
  simp only [hrX, List.getElem_map, List.getElem_range]
  have : (i < x + 1 ∧ s.ks.contains [n, ((i + 1 : Nat) : Int)] = true) ↔ (i < x ∧ s.ks.contains [n, ((i + 1 : Nat) : Int)] = true) := by
   constructor <;> rintro ⟨h1, h2⟩ <;> exact ⟨by omega, h2⟩
  simp only [this]
theorem hrX_no (s : MS) (n : Int) (x : Nat) (h : s.ks.contains [n, ((x + 1 : Nat) : Int)] = false) : hrX s n (x + 1) = hrX s n x := by
 apply List.ext_getElem (by simp [hrX])
 intro i h1 h2
 simp only [hrX, List.getElem_map, List.getElem_range]
 have : (i < x + 1 ∧ s.ks.contains [n, ((i + 1 : Nat) : Int)] = true) ↔ (i < x ∧ s.ks.contains [n, ((i + 1 : Nat) : Int)] = true) := by
  constructor
  ·rintro ⟨h3, h4⟩
   by_cases e : i = x
   ·rw [e, h] at h4; cases h4
   ·exact ⟨by omega, h4⟩
  ·rintro ⟨h3, h4⟩; exact ⟨by omega, h4⟩
 simp only [this]
abbrev pBw (l : List (Option DS)) : Blk := .arr true 206 12 l.length (pbF l)
set_option maxHeartbeats 1000000 in
theorem heard_ok (s : MS) (n : Nat) : Runs Tryz.prog 84 [.map 0, .val (.int .i64 n)] [mB s] (Det (.sl 1 12 0 8 none) [mB s, pBw (hrX s n 8)]) := by
 refine Runs.mk tabOK Tryz.call84 Tryz.func84 rfl Tryz.ntmps84 Tryz.results84 rfl ?_
 (repeat' (first
  | (intro Q h; refine h ?_; clear h Q)
  | refine seq_go ?_
  | refine And.intro (by first | omega | ((try simp only [wS]); omega) | rfl | decide) ?_
  ))
 refine loop_inv (σ := Nat) (fun x => x ≤ 8) (fun x => ⟨[(0, .map 0), (1, .val (.int .i64 n)), (5, .sl 1 12 0 8 none), (11, .val (.int .i64 8)), (12, .val (.int .i64 x))], [mB s, pBw (hrX s n x)]⟩) (fun x => 8 - x) (0) ?_ ?_ ?_
 ·omega
 ·(apply le_mk [some 0, some 1]; (focus (iterate 2 (all_goals (repeat' (first | exact mapa_same meA_flat rfl (fun _ _ => rfl) | exact sub_map rfl | exact trivial | (intro Q h; refine h ?_; clear h Q) | refine And.intro ?_ ?_ | exact sub_sl rfl rfl rfl | exact sub_refl_val _ _ | exact sub_sbl rfl | refine cells_succ ?_ ?_ | exact cell0 | (apply row_lit rfl; (focus (refine cells_succ ?_ ?_))) ))))); any_goals (apply okIx_mk; rfl))
  all_goals first
   | exact row_rep (x := none) (subL_cons (sub_sb rfl) (subL_cons (sub_int rfl) (subL_cons (sub_int rfl) (subL_cons (sub_int rfl) (subL_cons (sub_int rfl) (subL_cons (sub_int rfl) (subL_cons (sub_int rfl) (subL_cons (sub_int rfl) (subL_cons (sub_int rfl) (subL_cons (sub_int rfl) (subL_cons (sub_int rfl) (subL_cons (sub_int rfl) subL_nil)))))))))))) (hrX_zero s n) rfl
   | fail
 rintro x hx
 have hle := hrX_len s n x
 by_cases hx8 : x < 8
 ·have hz : 0 + Int.toNat (x : Int) = x := by omega
  have hwr : IntKind.i64.wrap ((x : Int) + 1) = ((x + 1 : Nat) : Int) := by rw [cwrap (by omega) (by omega)]; rfl
  cases hc : s.ks.contains [(n : Int), ((x + 1 : Nat) : Int)]
  ·have hh := hc
   rw [← hwr] at hh
   have hn := hrX_no s n x hc
   (repeat' (first
  | (intro Q h; refine h ?_; clear h Q)
  | (with_reducible refine bcase_false ?_)
  | (refine bcase_mk (fun hb => ?_) (fun hb => ?_) <;> (try simp only [nS, nT, eq_self, reduceCtorEq] at hb) <;> (try (exfalso; (first | omega | (rw [hh] at hb; cases hb)); done)))
  | refine seq_go ?_
  | (apply next_sub (Subtype.mk (x + 1) (by first | omega | (simp only; omega))); (focus (rw [hn]; apply le_mk [some 0, some 1]; (focus (iterate 2 (all_goals (repeat' (first | exact mapa_same meA_flat rfl (fun _ _ => rfl) | exact sub_map rfl | exact trivial | (intro Q h; refine h ?_; clear h Q) | refine And.intro ?_ ?_ | exact sub_sl rfl rfl rfl | exact sub_refl_val _ _ | exact row_same rfl rfl rfl | ((refine sub_int ?_); first | with_reducible rfl | omega | ((try simp only [wS]); omega) | rfl) ))))); any_goals (apply okIx_mk; rfl))); (all_goals (try (first | (simp only; omega)))))
  ))
  ·have hh := hc
   rw [← hwr] at hh
   have hn := hrX_yes s n x hx8 hc
   rw [← hwr] at hn
   generalize hrX s n x = L at *
   have hn' : hrX s n (x + 1) = L.set (0 + Int.toNat (x : Int)) (some (s.g [(n : Int), IntKind.i64.wrap ((x : Int) + 1)]).set) := by rw [hz]; exact hn
   (repeat' (first
  | (intro Q h; refine h ?_; clear h Q)
  | (with_reducible refine bcase_true ?_)
  | (refine bcase_mk (fun hb => ?_) (fun hb => ?_) <;> (try simp only [nS, nT, eq_self, reduceCtorEq] at hb) <;> (try (exfalso; (first | omega | (rw [hh] at hb; cases hb)); done)))
  | refine seq_go ?_
  | refine And.intro (by first | omega | ((try simp only [wS]); omega) | rfl | decide) ?_
  | (apply next_sub (Subtype.mk (x + 1) (by first | omega | (simp only; omega))); (focus (rw [hn']; apply le_mk [some 0, some 1]; (focus (iterate 2 (all_goals (repeat' (first | exact mapa_same meA_flat rfl (fun _ _ => rfl) | exact sub_map rfl | exact trivial | (intro Q h; refine h ?_; clear h Q) | refine And.intro ?_ ?_ | exact sub_sl rfl rfl rfl | exact sub_refl_val _ _ | ((refine sub_int ?_); first | with_reducible rfl | omega | ((try simp only [wS]); omega) | rfl) ))))); any_goals (apply okIx_mk; rfl))); (all_goals (try (first | (simp only; omega)))))
  ))
   all_goals exact row_setl rfl (subL_cons (sub_sbl rfl) (subL_cons (sub_int rfl) (subL_cons (sub_int rfl) (subL_cons (sub_int rfl) (subL_cons (sub_int rfl) (subL_cons (sub_int rfl) (subL_cons (sub_int rfl) (subL_cons (sub_int rfl) (subL_cons (sub_int rfl) (subL_cons (sub_int rfl) (subL_cons (sub_int rfl) (subL_cons (sub_int rfl) subL_nil)))))))))))) (by rw [hle]; omega) rfl rfl rfl
 ·obtain rfl : x = 8 := by omega
  (repeat' (first
  | (intro Q h; refine h ?_; clear h Q)
  | (refine bcase_mk (fun hb => ?_) (fun hb => ?_) <;> (try simp only [nS, nT, eq_self, reduceCtorEq] at hb) <;> (try (exfalso; omega)))
  | (apply ret_mk [some 0, some 1]; (focus (iterate 2 (all_goals (repeat' (first | exact mapa_same meA_flat rfl (fun _ _ => rfl) | exact trivial | (intro Q h; refine h ?_; clear h Q) | refine And.intro ?_ ?_ | exact sub_sl rfl rfl rfl | exact row_same rfl rfl rfl ))))); any_goals (apply okIx_mk; rfl))
  ))
end Go.Vx.L58
set_option maxRecDepth 100000
namespace Go.Vx.L58
open Go Go.Proofs
def vlM (ns : List Nd) (pk : List (List Int)) (m : Mm) : Bool := decide (pk.contains [m.node, m.port] = true ∧ (0 ≤ m.age ∧ m.age < 3) ∧ (0 ≤ m.set.st ∧ m.set.st < 32) ∧ [m.set.p1, m.set.cl, m.set.ac, m.set.va, m.set.p2, m.set.sp, m.set.rp].all wrd = true ∧ m.set.re = (ns.getD m.node.toNat nd0).id ∧ m.set.rp = m.port)
set_option maxHeartbeats 4000000 in
theorem valid_ok (ns : List Nd) (cap : Option Nat) (rs pk : List (List Int)) (gp : List Int → Int × Int) (hpk : ∀ a p : Int, [a, p] ∈ pk → 0 ≤ a ∧ a < ns.length) (m : Mm) :
  Runs Tryz.prog 119 [aF ns cap rs, meA m] (fB ns rs pk gp) (Det (.sb (vlM ns pk m)) (fB ns rs pk gp)) := by
 have hwo := words_ok [m.set.p1, m.set.cl, m.set.ac, m.set.va, m.set.p2, m.set.sp, m.set.rp] (some 7) (by simp)
 have hnd : pk.contains [m.node, m.port] = true → 0 ≤ m.node ∧ m.node < ns.length := fun h => hpk _ _ (by simpa using h)
 have hv : ∀ b, (vlM ns pk m = b) = (vlM ns pk m = b) := fun _ => rfl
 cases hc : pk.contains [m.node, m.port]
 ·have hh := hc
  have e : vlM ns pk m = false := decide_eq_false (fun h => by rw [hc] at h; cases h.1)
  rw [e]
  refine Runs.mk tabOK Tryz.call119 Tryz.func119 rfl Tryz.ntmps119 Tryz.results119 rfl ?_
  (repeat' (first
  | (intro Q h; refine h ?_; clear h Q)
  | (refine bcase_mk (fun hb => ?_) (fun hb => ?_) <;> (try simp only [nS, nT, eq_self, reduceCtorEq] at hb) <;> (try (exfalso; (first | (rw [hh] at hb; cases hb)); done)))
  | refine seq_go ?_
  | (apply ret_mk [some 0, some 1, some 2]; (focus (iterate 2 (all_goals (repeat' (first | exact fam_same rfl rfl rfl | exact mapa_same plA_flat rfl (fun _ _ => rfl) | exact trivial | (intro Q h; refine h ?_; clear h Q) | refine And.intro ?_ ?_ | exact sub_sbl rfl | exact row_same rfl rfl rfl ))))); any_goals (apply okIx_mk; rfl))
  ))
 ·have hh := hc
  obtain ⟨n0, n1⟩ := hnd hc
  cases hw : [m.set.p1, m.set.cl, m.set.ac, m.set.va, m.set.p2, m.set.sp, m.set.rp].all wrd
  ·have e : vlM ns pk m = false := decide_eq_false (fun h => by rw [hw] at h; cases h.2.2.2.1)
   rw [hw] at hwo
   rw [e]
   refine Runs.mk tabOK Tryz.call119 Tryz.func119 rfl Tryz.ntmps119 Tryz.results119 rfl ?_
   (repeat' (first
  | (intro Q h; refine h ?_; clear h Q)
  | (with_reducible refine bcase_false ?_)
  | (refine bcase_mk (fun hb => ?_) (fun hb => ?_) <;> (try simp only [nS, nT, eq_self, reduceCtorEq] at hb) <;> (try (exfalso; (first | (rw [hh] at hb; cases hb)); done)))
  | refine draw_mk (by decide +kernel) ?_
  | refine seq_go ?_
  | ((first | apply calld1 (hwo)); (focus (iterate 2 (all_goals (repeat' (first | exact subL_nil | exact trivial | (intro Q h; refine h ?_; clear h Q) | refine And.intro ?_ ?_ | refine subL_cons ?_ ?_ | exact sub_sl rfl rfl rfl | exact sub_refl_val _ _ | refine cells_succ ?_ ?_ | exact cell0 | (apply row_lit rfl; (focus (refine cells_succ ?_ ?_))) ))))); (try (any_goals (first | (apply nodup_mk3; rfl)))))
  | (apply ret_mk [some 0, some 1, some 2]; (focus (iterate 2 (all_goals (repeat' (first | exact fam_same rfl rfl rfl | exact mapa_same plA_flat rfl (fun _ _ => rfl) | exact trivial | (intro Q h; refine h ?_; clear h Q) | refine And.intro ?_ ?_ | exact sub_sbl rfl | exact row_same rfl rfl rfl ))))); any_goals (apply okIx_mk; rfl))
  ))
  ·have e : vlM ns pk m = decide ((0 ≤ m.age ∧ m.age < 3) ∧ (0 ≤ m.set.st ∧ m.set.st < 32) ∧ m.set.re = (ns.getD (0 + m.node.toNat) nd0).id ∧ m.set.rp = m.port) := by
    unfold vlM; rw [hc, hw, Nat.zero_add]; simp
   rw [hw] at hwo
   rw [e]
   clear e hv hnd hpk hw hc
   refine Runs.mk tabOK Tryz.call119 Tryz.func119 rfl Tryz.ntmps119 Tryz.results119 rfl ?_
   (repeat' (first
  | (intro Q h; refine h ?_; clear h Q)
  | (with_reducible refine bcase_true ?_)
  | (refine bcase_mk (fun hb => ?_) (fun hb => ?_) <;> (try simp only [nS, nT, eq_self, reduceCtorEq] at hb) <;> (try (exfalso; (first | (rw [hh] at hb; cases hb)); done)))
  | refine draw_mk (by decide +kernel) ?_
  | refine seq_go ?_
  | refine And.intro (by first | omega | ((try simp only [wS]); omega) | rfl | decide) ?_
  | ((first | apply calld1 (hwo)); (focus (iterate 2 (all_goals (repeat' (first | exact subL_nil | exact trivial | (intro Q h; refine h ?_; clear h Q) | refine And.intro ?_ ?_ | refine subL_cons ?_ ?_ | exact sub_sl rfl rfl rfl | exact sub_refl_val _ _ | refine cells_succ ?_ ?_ | exact cell0 | (apply row_lit rfl; (focus (refine cells_succ ?_ ?_))) ))))); (try (any_goals (first | (apply nodup_mk3; rfl)))))
  | (apply ret_mk [some 0, some 1, some 2]; (focus (iterate 2 (all_goals (repeat' (first | exact fam_same rfl rfl rfl | exact mapa_same plA_flat rfl (fun _ _ => rfl) | exact trivial | (intro Q h; refine h ?_; clear h Q) | refine And.intro ?_ ?_ | exact row_same rfl rfl rfl | refine sub_sbl ?_ ))))); any_goals (apply okIx_mk; rfl))
  ))
   all_goals first
    | exact (decide_eq_true (by omega)).symm
    | exact (decide_eq_false (by omega)).symm
    | (simp_all; done)
    | fail
def sntF (i j : Int) (p q : Int) (o f : DS) : DS × Bool :=
 if f = o then ({ o with se := i, sp := p, re := j, rp := q }, true) else if f.st + 1 < 32 then ({ f with st := f.st + 1, se := i, sp := p, re := j, rp := q }, true) else (default, false)
set_option maxHeartbeats 4000000 in
theorem sent_ok (ns : List Nd) (cap : Option Nat) (rs pk : List (List Int)) (gp : List Int → Int × Int) (x y p q : Int) (hx : 0 ≤ x ∧ x < ns.length) (hy : 0 ≤ y ∧ y < ns.length) (o f : DS) (hf : 0 ≤ f.st ∧ f.st < 32) :
  Runs Tryz.prog 122 [aF ns cap rs, plA (x, p), plA (y, q), aD o, aD f] (fB ns rs pk gp) (Det (.tup [aD (sntF (ns.getD x.toNat nd0).id (ns.getD y.toNat nd0).id p q o f).1, .sb (sntF (ns.getD x.toNat nd0).id (ns.getD y.toNat nd0).id p q o f).2]) (fB ns rs pk gp)) := by
 have hst := step_ok f (ns.getD x.toNat nd0).id p (ns.getD y.toNat nd0).id q hf.1 hf.2
 by_cases h1 : f = o
 ·subst h1
  have e : sntF (ns.getD x.toNat nd0).id (ns.getD y.toNat nd0).id p q f f = ({ f with se := (ns.getD x.toNat nd0).id, sp := p, re := (ns.getD y.toNat nd0).id, rp := q }, true) := by unfold sntF; rw [if_pos rfl]
  rw [e]
  rw [← Nat.zero_add x.toNat, ← Nat.zero_add y.toNat]
  refine Runs.mk tabOK Tryz.call122 Tryz.func122 rfl Tryz.ntmps122 Tryz.results122 rfl ?_
  (repeat' (first
  | (intro Q h; refine h ?_; clear h Q)
  | (refine bcase_mk (fun hb => ?_) (fun hb => ?_) <;> (try simp only [nS, nT, eq_self, reduceCtorEq] at hb) <;> (try (exfalso; fail; done)))
  | refine draw_mk (by decide +kernel) ?_
  | refine seq_go ?_
  | refine And.intro (by first | omega | ((try simp only [wS]); omega) | rfl | decide) ?_
  | (apply ret_mk [some 0, some 1, some 2]; (focus (iterate 2 (all_goals (repeat' (first | exact fam_same rfl rfl rfl | exact mapa_same plA_flat rfl (fun _ _ => rfl) | exact subL_nil | exact trivial | (intro Q h; refine h ?_; clear h Q) | refine And.intro ?_ ?_ | refine subL_cons ?_ ?_ | refine sub_agg ?_ | refine sub_tup ?_ | exact sub_refl_val _ _ | exact sub_sbl rfl | exact row_same rfl rfl rfl ))))); any_goals (apply okIx_mk; rfl))
  ))
 ·have hne : ¬ (f.p1 = o.p1 ∧ f.cl = o.cl ∧ f.ac = o.ac ∧ f.va = o.va ∧ f.p2 = o.p2 ∧ f.gm = o.gm ∧ f.st = o.st ∧ f.se = o.se ∧ f.sp = o.sp ∧ f.re = o.re ∧ f.rp = o.rp) := fun ⟨a1, a2, a3, a4, a5, a6, a7, a8, a9, a10, a11⟩ => h1 (by cases f; cases o; simp_all)
  by_cases h2 : f.st + 1 < 32
  ·have e : sntF (ns.getD x.toNat nd0).id (ns.getD y.toNat nd0).id p q o f = ({ f with st := f.st + 1, se := (ns.getD x.toNat nd0).id, sp := p, re := (ns.getD y.toNat nd0).id, rp := q }, true) := by unfold sntF; rw [if_neg h1, if_pos h2]
   rw [e]
   generalize hD : ({ f with st := f.st + 1, se := (ns.getD x.toNat nd0).id, sp := p, re := (ns.getD y.toNat nd0).id, rp := q } : DS) = D at *
   have hDs : D.st = f.st + 1 := by rw [← hD]
   rw [← Nat.zero_add x.toNat, ← Nat.zero_add y.toNat] at hst
   refine Runs.mk tabOK Tryz.call122 Tryz.func122 rfl Tryz.ntmps122 Tryz.results122 rfl ?_
   (repeat' (first
  | (intro Q h; refine h ?_; clear h Q)
  | (refine bcase_mk (fun hb => ?_) (fun hb => ?_) <;> (try simp only [nS, nT, eq_self, reduceCtorEq] at hb) <;> (try (exfalso; omega)))
  | refine draw_mk (by decide +kernel) ?_
  | refine seq_go ?_
  | refine And.intro (by first | omega | ((try simp only [wS]); omega) | rfl | decide) ?_
  | ((first | apply call0 (hst) ); exact AS)
  | (apply ret_mk [some 0, some 1, some 2]; (focus (iterate 2 (all_goals (repeat' (first | exact fam_same rfl rfl rfl | exact mapa_same plA_flat rfl (fun _ _ => rfl) | exact subL_nil | exact trivial | (intro Q h; refine h ?_; clear h Q) | refine And.intro ?_ ?_ | refine subL_cons ?_ ?_ | refine sub_agg ?_ | refine sub_tup ?_ | exact sub_refl_val _ _ | exact sub_sbl rfl | exact row_same rfl rfl rfl ))))); any_goals (apply okIx_mk; rfl))
  ))
  ·have e : sntF (ns.getD x.toNat nd0).id (ns.getD y.toNat nd0).id p q o f = (default, false) := by unfold sntF; rw [if_neg h1, if_neg h2]
   rw [e]
   generalize hD : ({ f with st := f.st + 1, se := (ns.getD x.toNat nd0).id, sp := p, re := (ns.getD y.toNat nd0).id, rp := q } : DS) = D at *
   have hDs : D.st = f.st + 1 := by rw [← hD]
   rw [← Nat.zero_add x.toNat, ← Nat.zero_add y.toNat] at hst
   refine Runs.mk tabOK Tryz.call122 Tryz.func122 rfl Tryz.ntmps122 Tryz.results122 rfl ?_
   (repeat' (first
  | (intro Q h; refine h ?_; clear h Q)
  | (refine bcase_mk (fun hb => ?_) (fun hb => ?_) <;> (try simp only [nS, nT, eq_self, reduceCtorEq] at hb) <;> (try (exfalso; omega)))
  | refine draw_mk (by decide +kernel) ?_
  | refine seq_go ?_
  | refine And.intro (by first | omega | ((try simp only [wS]); omega) | rfl | decide) ?_
  | ((first | apply call0 (hst) ); exact AS)
  | (apply ret_mk [some 0, some 1, some 2]; (focus (iterate 2 (all_goals (repeat' (first | exact fam_same rfl rfl rfl | exact mapa_same plA_flat rfl (fun _ _ => rfl) | exact subL_nil | exact trivial | (intro Q h; refine h ?_; clear h Q) | refine And.intro ?_ ?_ | refine subL_cons ?_ ?_ | refine sub_agg ?_ | refine sub_tup ?_ | exact sub_refl_val _ _ | exact sub_sbl rfl | exact row_same rfl rfl rfl ))))); any_goals (apply okIx_mk; rfl))
  ))
end Go.Vx.L58

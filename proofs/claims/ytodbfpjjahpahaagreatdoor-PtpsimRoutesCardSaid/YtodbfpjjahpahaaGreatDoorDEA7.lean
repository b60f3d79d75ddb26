/- Lemmas of a small executor for the model, and contracts of functions, used for the law that this claim proves. No condition. -/
import Derived.Test.YtodbfpjjahpahaaGreatDoorDW3
import Derived.Test.YtodbfpjjahpahaaGreatDoorDEA6
import Derived.Test.YtodbfpjjahpahaaGreatDoorDGA
set_option linter.unusedSimpArgs false
set_option linter.unusedVariables false
set_option maxRecDepth 100000
namespace Go.Vx.L58
open Go Go.Proofs
abbrev aN (n : Int) (l : List Ed) (cap : Option Nat) (ns : List Nd) (cap' : Option Nat) : AV := .agg [.val (.int .i64 n), .sl 0 4 0 l.length cap, .sl 1 6 0 ns.length cap']
def dupB (ns : List Nd) (i : Nat) : Nat → Bool
 | 0 => false
 | y + 1 => dupB ns i y || decide ((ns.getD y nd0).id = (ns.getD i nd0).id)
theorem dupB_of {ns : List Nd} {i y : Nat} (h : (ns.getD y nd0).id = (ns.getD i nd0).id) : ∀ k, y < k → dupB ns i k = true
 | 0, hk => by omega
 | k + 1, hk => by
  unfold dupB
  by_cases e : y = k
  ·subst e; rw [decide_eq_true h, Bool.or_true]
  ·rw [dupB_of h k (by omega), Bool.true_or]
theorem dupB_not {ns : List Nd} {i : Nat} : ∀ k, dupB ns i k = false → ∀ y, y < k → (ns.getD y nd0).id ≠ (ns.getD i nd0).id
 | k, h, y, hy, e => by rw [dupB_of e k hy] at h; cases h
def qlL (c : Nd) : List Int := [c.p1, c.cl, c.ac, c.va, c.p2]
def ckN1 (ns : List Nd) (i : Nat) : Int := if (qlL (ns.getD i nd0)).all wrd = false then 3 else if dupB ns i i = true then 10 else if (ns.getD i nd0).cl ≤ 127 then 15 else 0
def ckN2 (ns : List Nd) : Nat → Nat → Int
 | 0, _ => 0
 | k + 1, i => if ckN1 ns i ≠ 0 then ckN1 ns i else ckN2 ns k (i + 1)
def ckE (n : Int) (l : List Ed) (ns : List Nd) : Int := if ckC n l ≠ 0 then ckC n l else if (ns.length : Int) ≠ n then 7 else ckN2 ns ns.length 0
set_option maxHeartbeats 4000000 in
theorem echeck_ok (n : Int) (l : List Ed) (cap : Option Nat) (hl : l.length ≤ maxLen) (ns : List Nd) (cap' : Option Nat) (hn : ns.length ≤ maxLen) :
  Runs Tryz.prog 25 [aN n l cap ns cap'] [gB l, ndB ns] (Det (.val (.int .i64 (ckE n l ns))) [gB l, ndB ns]) := by
 have hmx : maxLen = 9223372036854775807 := by decide
 have hck := check_ok n l cap hl
 by_cases hc : ckC n l = 0
 rotate_left
 ·have e : ckE n l ns = ckC n l := by unfold ckE; rw [if_pos hc]
  rw [e]
  generalize ckC n l = c at *
  refine Runs.mk tabOK Tryz.call25 Tryz.func25 rfl Tryz.ntmps25 Tryz.results25 rfl ?_
  (repeat' (first
  | (intro Q h; refine h ?_; clear h Q)
  | (refine bcase_mk (fun hb => ?_) (fun hb => ?_) <;> (try simp only [nS, nT, eq_self, reduceCtorEq] at hb) <;> (try (exfalso; omega)))
  | refine seq_go ?_
  | ((first | apply call1 (hck) ); exact AS; (try (any_goals fail)))
  | (apply ret_mk [some 0, some 1]; exact AS; any_goals (apply okIx_mk; rfl))
  ))
 obtain ⟨m, rfl, hm, _, _⟩ := ckC_parts hc
 rw [hc] at hck
 by_cases hlen : (ns.length : Int) = m
 rotate_left
 ·have e : ckE m l ns = 7 := by unfold ckE; rw [if_neg (by omega), if_pos hlen]
  rw [e]
  refine Runs.mk tabOK Tryz.call25 Tryz.func25 rfl Tryz.ntmps25 Tryz.results25 rfl ?_
  (repeat' (first
  | (intro Q h; refine h ?_; clear h Q)
  | (refine bcase_mk (fun hb => ?_) (fun hb => ?_) <;> (try simp only [nS, nT, eq_self, reduceCtorEq] at hb) <;> (try (exfalso; omega)))
  | refine seq_go ?_
  | ((first | apply call1 (hck) ); exact AS; (try (any_goals fail)))
  | (apply ret_mk [some 0, some 1]; exact AS; any_goals (apply okIx_mk; rfl))
  ))
 have e : ckE m l ns = ckN2 ns ns.length 0 := by unfold ckE; rw [if_neg (by omega), if_neg (by omega)]
 rw [e]
 clear e
 refine Runs.mk tabOK Tryz.call25 Tryz.func25 rfl Tryz.ntmps25 Tryz.results25 rfl ?_
 (repeat' (first
  | (intro Q h; refine h ?_; clear h Q)
  | (refine bcase_mk (fun hb => ?_) (fun hb => ?_) <;> (try simp only [nS, nT, eq_self, reduceCtorEq] at hb) <;> (try (exfalso; omega)))
  | refine seq_go ?_
  | ((first | apply call1 (hck) ); exact AS; (try (any_goals fail)))
  ))
 refine loop_inv (σ := Nat) (fun x => x ≤ ns.length ∧ ckN2 ns (ns.length - x) x = ckN2 ns ns.length 0) (fun x => ⟨[(1, .ptr 2 3 0 0), (23, .sl 1 6 0 ns.length cap'), (24, .val (.int .i64 ns.length)), (25, .val (.int .i64 x))], [gB l, ndB ns, .var [.val (.int .i64 m), .sl 0 4 0 l.length cap, .sl 1 6 0 ns.length cap']]⟩) (fun x => ns.length - x) (0) ?_ ?_ ?_
 ·exact ⟨by omega, rfl⟩
 ·(apply le_mk [some 0, some 1, some 2]; exact AS; any_goals (apply okIx_mk; rfl))
 rintro i ⟨hi, hie⟩
 by_cases hil : i < ns.length
 ·have hz : 0 + Int.toNat (i : Int) = i := by omega
  rw [show ns.length - i = (ns.length - (i + 1)) + 1 by omega, ckN2] at hie
  have hwo := words_ok (qlL (ns.getD (0 + Int.toNat (i : Int)) nd0)) (some 5) (by simp [qlL])
  have hcn : ckN1 ns i = if (qlL (ns.getD (0 + Int.toNat (i : Int)) nd0)).all wrd = false then 3 else if dupB ns i i = true then 10 else if (ns.getD (0 + Int.toNat (i : Int)) nd0).cl ≤ 127 then 15 else 0 := by rw [hz]; rfl
  cases hw : (qlL (ns.getD (0 + Int.toNat (i : Int)) nd0)).all wrd
  ·rw [hw] at hwo
   rw [hw, if_pos rfl] at hcn
   rw [hcn, if_pos (by decide)] at hie
   rw [← hie]
   (repeat' (first
  | (intro Q h; refine h ?_; clear h Q)
  | (refine bcase_mk (fun hb => ?_) (fun hb => ?_) <;> (try simp only [nS, nT, eq_self, reduceCtorEq] at hb) <;> (try (exfalso; omega)))
  | refine seq_go ?_
  | refine And.intro (by first | omega | ((try simp only [wS]); omega) | rfl | decide) ?_
  | ((first | apply call1 (hwo) ); (focus (iterate 2 (all_goals (repeat' (first | exact subL_nil | exact trivial | (intro Q h; refine h ?_; clear h Q) | refine And.intro ?_ ?_ | refine subL_cons ?_ ?_ | exact sub_sl rfl rfl rfl | exact sub_refl_val _ _ | refine cells_succ ?_ ?_ | exact cell0 | (apply row_lit rfl; (focus (refine cells_succ ?_ ?_))) ))))); (try (any_goals fail)))
  | (apply ret_mk [some 0, some 1]; exact AS; any_goals (apply okIx_mk; rfl))
  ))
  ·rw [hw] at hwo
   rw [hw, if_neg (by simp)] at hcn
   (repeat' (first
  | (intro Q h; refine h ?_; clear h Q)
  | (refine bcase_mk (fun hb => ?_) (fun hb => ?_) <;> (try simp only [nS, nT, eq_self, reduceCtorEq] at hb) <;> (try (exfalso; omega)))
  | refine seq_go ?_
  | refine And.intro (by first | omega | ((try simp only [wS]); omega) | rfl | decide) ?_
  | ((first | apply call1 (hwo) ); (focus (iterate 2 (all_goals (repeat' (first | exact subL_nil | exact trivial | (intro Q h; refine h ?_; clear h Q) | refine And.intro ?_ ?_ | refine subL_cons ?_ ?_ | exact sub_sl rfl rfl rfl | exact sub_refl_val _ _ | refine cells_succ ?_ ?_ | exact cell0 | (apply row_lit rfl; (focus (refine cells_succ ?_ ?_))) ))))); (try (any_goals fail)))
  ))
   refine loop_inv (σ := Nat) (fun x => x ≤ i ∧ dupB ns i x = false) (fun x => ⟨[(1, .ptr 2 3 0 0), (5, .ptr 3 6 0 0), (6, .ptr 4 5 0 0), (23, .sl 1 6 0 ns.length cap'), (24, .val (.int .i64 ns.length)), (25, .val (.int .i64 i)), (48, .sl 1 6 0 i (Option.map (fun x => x - Int.toNat 0) cap')), (49, .val (.int .i64 i)), (50, .val (.int .i64 x))], [gB l, ndB ns, .var [.val (.int .i64 m), .sl 0 4 0 l.length cap, .sl 1 6 0 ns.length cap'], .var (ndC (ns.getD (0 + Int.toNat (i : Int)) nd0)), .var [.val (.int .i64 (ns.getD (0 + Int.toNat (i : Int)) nd0).p1), .val (.int .i64 (ns.getD (0 + Int.toNat (i : Int)) nd0).cl), .val (.int .i64 (ns.getD (0 + Int.toNat (i : Int)) nd0).ac), .val (.int .i64 (ns.getD (0 + Int.toNat (i : Int)) nd0).va), .val (.int .i64 (ns.getD (0 + Int.toNat (i : Int)) nd0).p2)]]⟩) (fun x => i - x) (0) ?_ ?_ ?_
   ·exact ⟨by omega, rfl⟩
   ·(apply le_mk [some 0, some 1, some 2, some 3, some 4]; exact AS; any_goals (apply okIx_mk; rfl))
   rintro y ⟨hy, hye⟩
   by_cases hyi : y < i
   ·have hzy : 0 + Int.toNat (y : Int) = y := by omega
    by_cases hd : (ns.getD (0 + Int.toNat (y : Int)) nd0).id = (ns.getD (0 + Int.toNat (i : Int)) nd0).id
    ·have hdu : dupB ns i i = true := dupB_of (by rw [hzy, hz] at hd; exact hd) i hyi
     rw [hdu, if_pos rfl] at hcn
     rw [hcn, if_pos (by decide)] at hie
     rw [← hie]
     (repeat' (first
  | (intro Q h; refine h ?_; clear h Q)
  | (refine bcase_mk (fun hb => ?_) (fun hb => ?_) <;> (try simp only [nS, nT, eq_self, reduceCtorEq] at hb) <;> (try (exfalso; omega)))
  | refine seq_go ?_
  | refine And.intro (by first | omega | ((try simp only [wS]); omega) | rfl | decide) ?_
  | (apply ret_mk [some 0, some 1]; exact AS; any_goals (apply okIx_mk; rfl))
  ))
    ·have hdu : dupB ns i (y + 1) = false := by
      unfold dupB; rw [hye, decide_eq_false (by rw [hzy, hz] at hd; exact hd)]; rfl
     (repeat' (first
  | (intro Q h; refine h ?_; clear h Q)
  | (refine bcase_mk (fun hb => ?_) (fun hb => ?_) <;> (try simp only [nS, nT, eq_self, reduceCtorEq] at hb) <;> (try (exfalso; omega)))
  | refine seq_go ?_
  | refine And.intro (by first | omega | ((try simp only [wS]); omega) | rfl | decide) ?_
  | (apply next_sub (Subtype.mk (y + 1) ⟨by omega, hdu⟩); (focus (apply le_mk [some 0, some 1, some 2, some 3, some 4]; exact AS; any_goals (apply okIx_mk; rfl))); (all_goals (try (first | (simp only; omega)))))
  ))
   ·obtain rfl : y = i := by omega
    rw [hye, if_neg (by simp)] at hcn
    by_cases hcl : (ns.getD (0 + Int.toNat (y : Int)) nd0).cl ≤ 127
    ·rw [if_pos hcl] at hcn
     rw [hcn, if_pos (by decide)] at hie
     rw [← hie]
     (repeat' (first
  | (intro Q h; refine h ?_; clear h Q)
  | (refine bcase_mk (fun hb => ?_) (fun hb => ?_) <;> (try simp only [nS, nT, eq_self, reduceCtorEq] at hb) <;> (try (exfalso; omega)))
  | (apply ret_mk [some 0, some 1]; exact AS; any_goals (apply okIx_mk; rfl))
  ))
    ·rw [if_neg hcl] at hcn
     rw [hcn, if_neg (by decide)] at hie
     (repeat' (first
  | (intro Q h; refine h ?_; clear h Q)
  | (refine bcase_mk (fun hb => ?_) (fun hb => ?_) <;> (try simp only [nS, nT, eq_self, reduceCtorEq] at hb) <;> (try (exfalso; omega)))
  | (apply next_sub (Subtype.mk (y + 1) ⟨by omega, hie⟩); (focus (apply le_mk [some 0, some 1, some 2]; exact AS; any_goals (apply okIx_mk; rfl))); (all_goals (try (first | (simp only; omega)))))
  ))
 ·have hx' : i = ns.length := by omega
  subst hx'
  rw [Nat.sub_self, ckN2] at hie
  rw [← hie]
  (repeat' (first
  | (intro Q h; refine h ?_; clear h Q)
  | (refine bcase_mk (fun hb => ?_) (fun hb => ?_) <;> (try simp only [nS, nT, eq_self, reduceCtorEq] at hb) <;> (try (exfalso; omega)))
  | (apply ret_mk [some 0, some 1]; exact AS; any_goals (apply okIx_mk; rfl))
  ))
end Go.Vx.L58

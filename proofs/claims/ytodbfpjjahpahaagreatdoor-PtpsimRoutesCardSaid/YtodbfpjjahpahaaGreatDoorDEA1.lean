/- Lemmas of a small executor for the model, and contracts of functions, used for the law that this claim proves. No condition. -/
import Derived.Test.YtodbfpjjahpahaaGreatDoorDW3
import Derived.Test.YtodbfpjjahpahaaGreatDoorDT58
import Derived.Handy
import Derived.Test.YtodbfpjjahpahaaGreatDoorDE1
import Derived.Test.YtodbfpjjahpahaaGreatDoorDG1
set_option linter.unusedSimpArgs false
set_option linter.unusedVariables false
set_option maxRecDepth 100000
namespace Go.Vx.L58
open Go Go.Proofs
abbrev dC (d : DS) : List AV := [.val (.int .i64 d.p1), .val (.int .i64 d.cl), .val (.int .i64 d.ac), .val (.int .i64 d.va), .val (.int .i64 d.p2), .val (.int .u64 d.gm), .val (.int .i64 d.st), .val (.int .u64 d.se), .val (.int .i64 d.sp), .val (.int .u64 d.re), .val (.int .i64 d.rp)]
abbrev aD (d : DS) : AV := .agg (dC d)
def inI (n : Int) : Prop := -9223372036854775808 ≤ n ∧ n ≤ 9223372036854775807
def inU (n : Int) : Prop := 0 ≤ n ∧ n ≤ 18446744073709551615
structure wfD (d : DS) : Prop where
 p1 : inI d.p1
 cl : inI d.cl
 ac : inI d.ac
 va : inI d.va
 p2 : inI d.p2
 gm : inU d.gm
 st : inI d.st
 se : inU d.se
 sp : inI d.sp
 re : inU d.re
 rp : inI d.rp
theorem bvt {a : Int} (h0 : 0 ≤ a) (h1 : a < 18446744073709551616) : (BitVec.ofInt IntKind.u64.bits a).toNat = a.toNat := by
 rw [BitVec.toNat_ofInt]
 show (a % ((2:Int)^64)).toNat = a.toNat
 congr 1
 exact Int.emod_eq_of_lt h0 h1
theorem nat_xor_top (m : Nat) (h : m < 18446744073709551616) : m ^^^ 9223372036854775808 = if m < 9223372036854775808 then m + 9223372036854775808 else m - 9223372036854775808 := by
 have h1 : (m ^^^ 9223372036854775808) % 2 ^ 63 = (m % 2 ^ 63) ^^^ (9223372036854775808 % 2 ^ 63) := Nat.xor_mod_two_pow
 have h2 : (m ^^^ 9223372036854775808) / 2 ^ 63 = (m / 2 ^ 63) ^^^ (9223372036854775808 / 2 ^ 63) := Nat.xor_div_two_pow
 rw [show (9223372036854775808 : Nat) % 2 ^ 63 = 0 by decide, Nat.xor_zero] at h1
 rw [show (9223372036854775808 : Nat) / 2 ^ 63 = 1 by decide] at h2
 rw [show (2 : Nat) ^ 63 = 9223372036854775808 by decide] at h1 h2
 by_cases hm : m < 9223372036854775808
 ·rw [if_pos hm]
  rw [show m / 9223372036854775808 = 0 by omega, show (0 : Nat) ^^^ 1 = 1 by decide] at h2
  omega
 ·rw [if_neg hm]
  rw [show m / 9223372036854775808 = 1 by omega, show (1 : Nat) ^^^ 1 = 0 by decide] at h2
  omega
theorem xor_top (n : Int) (h : inI n) : IntKind.u64.wrap ((BitVec.ofInt IntKind.u64.bits (IntKind.u64.wrap n) ^^^ BitVec.ofInt IntKind.u64.bits 9223372036854775808).toNat : Int) = n + 9223372036854775808 := by
 obtain ⟨h0, h1⟩ := h
 have e : IntKind.u64.wrap n = n % 18446744073709551616 := by rw [IntKind.wrap_u64]
 rw [BitVec.toNat_xor, bvt (by rw [e]; omega) (by rw [e]; omega), bvt (by decide) (by decide), e, show ((9223372036854775808 : Int)).toNat = 9223372036854775808 by decide, nat_xor_top _ (by omega), IntKind.wrap_u64]
 split <;> omega
def rkV (d : DS) : Nat → Int
 | 0 => d.p1 + 9223372036854775808
 | 1 => d.cl + 9223372036854775808
 | 2 => d.ac + 9223372036854775808
 | 3 => d.va + 9223372036854775808
 | 4 => d.p2 + 9223372036854775808
 | 5 => d.gm
 | 6 => d.st + 9223372036854775808
 | 7 => d.se
 | 8 => d.sp + 9223372036854775808
 | 9 => d.re
 | 10 => d.rp + 9223372036854775808
 | _ => 0
theorem rank_ok (d : DS) (hd : wfD d) (k : Nat) (hk : k ≤ 10) : Runs Tryz.prog 77 [aD d, .val (.int .i64 k)] [] (Det (.val (.int .u64 (rkV d k))) []) := by
 obtain ⟨h0, h1, h2, h3, h4, h5, h6, h7, h8, h9, h10⟩ := hd
 have x0 := xor_top _ h0
 have x1 := xor_top _ h1
 have x2 := xor_top _ h2
 have x3 := xor_top _ h3
 have x4 := xor_top _ h4
 have x6 := xor_top _ h6
 have x8 := xor_top _ h8
 have x10 := xor_top _ h10
 have : k = 0 ∨ k = 1 ∨ k = 2 ∨ k = 3 ∨ k = 4 ∨ k = 5 ∨ k = 6 ∨ k = 7 ∨ k = 8 ∨ k = 9 ∨ k = 10 := by omega
 rcases this with rfl | rfl | rfl | rfl | rfl | rfl | rfl | rfl | rfl | rfl | rfl
 all_goals
  simp only [rkV]
  refine Runs.mk tabOK Tryz.call77 Tryz.func77 rfl Tryz.ntmps77 Tryz.results77 rfl ?_
  (repeat' (first
  | (intro Q h; refine h ?_; clear h Q)
  | refine bcase_t (by first | exact beq_self_eq_true _ | decide) ?_
  | refine bcase_f (by decide) ?_
  | refine seq_go ?_
  | (apply ret_mk []; exact AS; any_goals (apply okIx_mk; rfl))
  ))
theorem cmpU_ok (x y : Int) : Runs Tryz.prog 118 [.val (.int .u64 x), .val (.int .u64 y)] [] (Det (.val (.int .i64 (if x < y then -1 else if y < x then 1 else 0))) []) := by
 have hn : ∀ z : Int, Runs Tryz.prog 150 [.val (.int .u64 z)] [] (Det (.sb false) []) := fun z => by
  refine Runs.mk tabOK Tryz.call150 Tryz.func150 rfl Tryz.ntmps150 Tryz.results150 rfl ?_
  (repeat' (first
  | (intro Q h; refine h ?_; clear h Q)
  | (apply ret_mk []; (focus (iterate 2 (all_goals (repeat' (first | exact trivial | refine And.intro ?_ ?_ | refine sub_sb ?_ ))))); any_goals (apply okIx_mk; rfl))
  ))
  all_goals simp
 refine Runs.mk tabOK Tryz.call118 Tryz.func118 rfl Tryz.ntmps118 Tryz.results118 rfl ?_
 (repeat' (first
  | (intro Q h; refine h ?_; clear h Q)
  | (with_reducible refine bcase_false ?_)
  | (refine bcase_mk (fun hb => ?_) (fun hb => ?_) <;> (try simp only [nS, nT, eq_self, reduceCtorEq] at hb) <;> (try (exfalso; omega)))
  | refine seq_go ?_
  | ((first | apply call0 (hn _) ); exact AS)
  | (apply ret_mk []; exact AS; any_goals (apply okIx_mk; rfl))
  ))
def kyD (d : DS) (k : Nat) : Int := d.ks.getD k 0
theorem rk_lt (a b : DS) (k : Nat) (hk : k ≤ 10) : rkV a k < rkV b k ↔ kyD a k < kyD b k := by
 have : k = 0 ∨ k = 1 ∨ k = 2 ∨ k = 3 ∨ k = 4 ∨ k = 5 ∨ k = 6 ∨ k = 7 ∨ k = 8 ∨ k = 9 ∨ k = 10 := by omega
 rcases this with rfl | rfl | rfl | rfl | rfl | rfl | rfl | rfl | rfl | rfl | rfl
 all_goals (simp only [rkV, kyD, DS.ks, DS.mk6, DS.tl5, List.cons_append, List.nil_append, List.getD_cons_zero, List.getD_cons_succ]; first | done | omega)
theorem lexB_at : ∀ (k : Nat) (a b : List Int), k < a.length → a.length = b.length → (∀ y, y < k → a.getD y 0 = b.getD y 0) → (a.getD k 0 < b.getD k 0 → lexB a b = true) ∧ (b.getD k 0 < a.getD k 0 → lexB a b = false)
 | _, [], _, h, _, _ => by simp at h
 | _, _ :: _, [], _, h, _ => by simp at h
 | 0, a :: x, b :: y, _, _, _ => by
  simp only [List.getD_cons_zero, lexB]
  refine ⟨fun h => if_pos h, fun h => ?_⟩
  rw [if_neg (by omega), if_pos h]
 | k + 1, a :: x, b :: y, h1, h2, h3 => by
  have e : a = b := by simpa using h3 0 (by omega)
  subst e
  simp only [List.getD_cons_succ, lexB]
  rw [if_neg (by omega), if_neg (by omega)]
  exact lexB_at k x y (by simpa using h1) (by simpa using h2) fun z hz => by simpa using h3 (z + 1) (by omega)
theorem lexB_same : ∀ (a b : List Int), a.length = b.length → (∀ y, y < a.length → a.getD y 0 = b.getD y 0) → a = b
 | [], [], _, _ => rfl
 | [], _ :: _, h, _ => by simp at h
 | _ :: _, [], h, _ => by simp at h
 | a :: x, b :: y, h1, h2 => by
  have e : a = b := by simpa using h2 0 (by simp)
  rw [e, lexB_same x y (by simpa using h1) fun z hz => by simpa using h2 (z + 1) (by simpa using hz)]
def cmpV (a b : DS) : Int := if lessD a b = true then -1 else if lessD b a = true then 1 else 0
theorem ks_len (d : DS) : d.ks.length = 11 := rfl
theorem gl_len : (glbs 0).length = 14 := rfl
theorem gl_at (x : Nat) (hx : x < 11) : (glbs 0).getD (0 + Int.toNat (x : Int) * 1) 0 = x := by
 have : x = 0 ∨ x = 1 ∨ x = 2 ∨ x = 3 ∨ x = 4 ∨ x = 5 ∨ x = 6 ∨ x = 7 ∨ x = 8 ∨ x = 9 ∨ x = 10 := by omega
 rcases this with rfl | rfl | rfl | rfl | rfl | rfl | rfl | rfl | rfl | rfl | rfl <;> rfl
set_option maxHeartbeats 2000000 in
theorem compare_ok (a b : DS) (ha : wfD a) (hb' : wfD b) : Runs Tryz.prog 78 [.agg [.fn (.func 77) []], aD a, aD b, .val (.int .i64 0), .val (.int .i64 11)] [] (Det (.val (.int .i64 (cmpV a b))) []) := by
 have hgn := gl_len
 refine Runs.mk tabOK Tryz.call78 Tryz.func78 rfl Tryz.ntmps78 Tryz.results78 rfl ?_
 (repeat' (first
  | (intro Q h; refine h ?_; clear h Q)
  | refine seq_go ?_
  ))
 refine loop_inv (σ := Nat) (fun x => x ≤ 11 ∧ ∀ y, y < x → kyD a y = kyD b y) (fun x => ⟨[(4, .val (.int .i64 11)), (5, .ptr 0 1 0 0), (6, .ptr 1 11 0 0), (7, .ptr 2 11 0 0), (11, .val (.int .i64 x))], [.var [.fn (.func 77) []], .var (dC a), .var (dC b)]⟩) (fun x => 11 - x) (0) ?_ ?_ ?_
 ·exact ⟨by omega, fun y h => by omega⟩
 ·(apply le_mk [some 0, some 1, some 2]; exact AS; any_goals (apply okIx_mk; rfl))
 rintro x ⟨hx, hxe⟩
 by_cases hx11 : x < 11
 ·have e := gl_at x hx11
  have r1 := rank_ok a ha x (by omega)
  have r2 := rank_ok b hb' x (by omega)
  have l1 := rk_lt a b x (by omega)
  have l2 := rk_lt b a x (by omega)
  have hc := cmpU_ok (rkV a x) (rkV b x)
  rw [← e] at r1 r2
  have hat := lexB_at x a.ks b.ks (by rw [ks_len]; exact hx11) rfl hxe
  have hat2 := lexB_at x b.ks a.ks (by rw [ks_len]; exact hx11) rfl (fun y h => (hxe y h).symm)
  by_cases c1 : kyD a x < kyD b x
  ·have e1 : cmpV a b = -1 := by unfold cmpV lessD; rw [if_pos (hat.1 c1)]
   rw [if_pos (l1.2 c1)] at hc
   rw [e1]
   generalize rkV a x = ra at *
   generalize rkV b x = rb' at *
   (repeat' (first
  | (intro Q h; refine h ?_; clear h Q)
  | (refine bcase_mk (fun hb => ?_) (fun hb => ?_) <;> (try simp only [nS, nT, eq_self, reduceCtorEq] at hb) <;> (try (exfalso; omega)))
  | refine draw_mk (by decide +kernel) ?_
  | refine seq_go ?_
  | refine And.intro (by first | omega | ((try simp only [wS]); omega) | rfl | decide) ?_
  | ((first | apply calld0 (r1)); exact AS)
  | ((first | apply calld0 (r2)); exact AS)
  | ((first | apply calld0 (hc)); exact AS)
  | (apply ret_mk []; exact AS; any_goals (apply okIx_mk; rfl))
  ))
  ·by_cases c2 : kyD b x < kyD a x
   ·have e1 : cmpV a b = 1 := by unfold cmpV lessD; rw [if_neg (by rw [hat.2 c2]; simp), if_pos (hat2.1 c2)]
    rw [if_neg (fun h => c1 (l1.1 h)), if_pos (l2.2 c2)] at hc
    rw [e1]
    (repeat' (first
  | (intro Q h; refine h ?_; clear h Q)
  | (refine bcase_mk (fun hb => ?_) (fun hb => ?_) <;> (try simp only [nS, nT, eq_self, reduceCtorEq] at hb) <;> (try (exfalso; omega)))
  | refine draw_mk (by decide +kernel) ?_
  | refine seq_go ?_
  | refine And.intro (by first | omega | ((try simp only [wS]); omega) | rfl | decide) ?_
  | ((first | apply calld0 (r1)); exact AS)
  | ((first | apply calld0 (r2)); exact AS)
  | ((first | apply calld0 (hc)); exact AS)
  | (apply ret_mk []; exact AS; any_goals (apply okIx_mk; rfl))
  ))
   ·rw [if_neg (fun h => c1 (l1.1 h)), if_neg (fun h => c2 (l2.1 h))] at hc
    have hxe' : ∀ y, y < x + 1 → kyD a y = kyD b y := fun y hy => by
     by_cases h : y = x
     ·rw [h]; omega
     ·exact hxe y (by omega)
    (repeat' (first
  | (intro Q h; refine h ?_; clear h Q)
  | (refine bcase_mk (fun hb => ?_) (fun hb => ?_) <;> (try simp only [nS, nT, eq_self, reduceCtorEq] at hb) <;> (try (exfalso; omega)))
  | refine draw_mk (by decide +kernel) ?_
  | refine seq_go ?_
  | refine And.intro (by first | omega | ((try simp only [wS]); omega) | rfl | decide) ?_
  | ((first | apply calld0 (r1)); exact AS)
  | ((first | apply calld0 (r2)); exact AS)
  | ((first | apply calld0 (hc)); exact AS)
  | (apply next_sub (Subtype.mk (x + 1) ⟨by omega, hxe'⟩); (focus (apply le_mk [some 0, some 1, some 2]; exact AS; any_goals (apply okIx_mk; rfl))); (all_goals (try (first | (simp only; omega)))))
  ))
 ·have e1 : cmpV a b = 0 := by
   have hk : a.ks = b.ks := lexB_same _ _ rfl fun y hy => hxe y (by rw [ks_len] at hy; omega)
   unfold cmpV lessD
   rw [hk, lexB_irr]; rfl
  rw [e1]
  (repeat' (first
  | (intro Q h; refine h ?_; clear h Q)
  | (refine bcase_mk (fun hb => ?_) (fun hb => ?_) <;> (try simp only [nS, nT, eq_self, reduceCtorEq] at hb) <;> (try (exfalso; omega)))
  | refine seq_go ?_
  | (apply ret_mk []; exact AS; any_goals (apply okIx_mk; rfl))
  ))
theorem less_ok (a b : DS) (ha : wfD a) (hb' : wfD b) : Runs Tryz.prog 37 [aD a, aD b] [] (Det (.sb (lessD a b)) []) := by
 have hc := compare_ok a b ha hb'
 by_cases h1 : lessD a b = true
 ·have e : cmpV a b = -1 := by unfold cmpV; rw [if_pos h1]
  rw [e] at hc
  rw [h1]
  refine Runs.mk tabOK Tryz.call37 Tryz.func37 rfl Tryz.ntmps37 Tryz.results37 rfl ?_
  (repeat' (first
  | (intro Q h; refine h ?_; clear h Q)
  | ((first | apply call0 (hc) ); exact AS)
  | (apply ret_mk []; exact AS; any_goals (apply okIx_mk; rfl))
  ))
 ·have e : 0 ≤ cmpV a b := by unfold cmpV; rw [if_neg h1]; split <;> omega
  rw [show lessD a b = false by simpa using h1]
  generalize cmpV a b = c at *
  refine Runs.mk tabOK Tryz.call37 Tryz.func37 rfl Tryz.ntmps37 Tryz.results37 rfl ?_
  (repeat' (first
  | (intro Q h; refine h ?_; clear h Q)
  | ((first | apply call0 (hc) ); exact AS)
  | (apply ret_mk []; (focus (iterate 2 (all_goals (repeat' (first | exact trivial | refine And.intro ?_ ?_ | refine sub_sb ?_ ))))); any_goals (apply okIx_mk; rfl))
  ))
  all_goals exact decide_eq_false (by omega)
end Go.Vx.L58

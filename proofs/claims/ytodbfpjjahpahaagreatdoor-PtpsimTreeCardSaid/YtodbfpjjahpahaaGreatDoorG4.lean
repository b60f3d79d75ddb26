/- Lemmas of a small executor for the model, and contracts of functions, used for the law that this claim proves. No condition. -/
import Derived.Test.YtodbfpjjahpahaaGreatDoorG3
set_option linter.unusedSimpArgs false
set_option linter.unusedVariables false
set_option maxRecDepth 100000
namespace Go.Vx.L58
open Go Go.Proofs
theorem uw (n : Int) : IntKind.u64.wrap n = n % 18446744073709551616 := by rw [IntKind.wrap_u64]
theorem bv_toNat {a : Int} (h0 : 0 ≤ a) (h1 : a < 18446744073709551616) : (BitVec.ofInt IntKind.u64.bits a).toNat = a.toNat := by
 rw [BitVec.toNat_ofInt]
 show (a % ((2:Int)^64)).toNat = a.toNat
 congr 1
 exact Int.emod_eq_of_lt h0 h1
theorem and_mask {a : Int} (h0 : 0 ≤ a) (h1 : a < 18446744073709551616) : IntKind.u64.wrap ((BitVec.ofInt IntKind.u64.bits a &&& BitVec.ofInt IntKind.u64.bits 4294967295).toNat : Int) = a % 4294967296 := by
 rw [BitVec.toNat_and, bv_toNat h0 h1, bv_toNat (by decide) (by decide)]
 have : (4294967295 : Int).toNat = 2 ^ 32 - 1 := by decide
 rw [this, Nat.and_two_pow_sub_one_eq_mod, uw]
 omega
theorem shr32 (a : Int) (h : 0 ≤ a) : a.fdiv (2 ^ (min (Int.toNat 32) IntKind.u64.bits)) = a / 4294967296 := by
 have : ((2:Int) ^ (min (Int.toNat 32) IntKind.u64.bits)) = 4294967296 := by decide
 rw [this, Int.fdiv_eq_ediv_of_nonneg _ (by decide)]
theorem uw_id {a : Int} (h0 : 0 ≤ a) (h1 : a < 18446744073709551616) : IntKind.u64.wrap a = a := by rw [uw]; omega
theorem parts (x y : Int) (h0 : 0 ≤ x) (h1 : x ≤ 1125899906842624) (h2 : 0 ≤ y) (h3 : y ≤ 4294967295) :
  ∃ p q : Int, x % 4294967296 * y = p ∧ x / 4294967296 * y = q ∧ x * y = q * 4294967296 + p ∧ (0 ≤ p ∧ p ≤ 18446744069414584320) ∧ (0 ≤ q ∧ q ≤ 1125899906580480) := by
 refine ⟨_, _, rfl, rfl, ?_, ⟨?_, ?_⟩, ⟨?_, ?_⟩⟩
 ·have h := Int.mul_ediv_add_emod x 4294967296
  calc x * y = (4294967296 * (x / 4294967296) + x % 4294967296) * y := by rw [h]
   _ = _ := by rw [Int.add_mul, Int.mul_assoc, Int.mul_comm]
 ·exact Int.mul_nonneg (by omega) h2
 ·have : x % 4294967296 * y ≤ 4294967296 * 4294967295 := Int.mul_le_mul (by omega) h3 h2 (by decide)
  omega
 ·exact Int.mul_nonneg (by omega) h2
 ·have : x / 4294967296 * y ≤ 262144 * 4294967295 := Int.mul_le_mul (by omega) h3 h2 (by decide)
  omega
theorem mul64_ok (x y : Int) (h0 : 0 ≤ x) (h1 : x ≤ 1125899906842624) (h2 : 0 ≤ y) (h3 : y ≤ 4294967295) :
  Runs Tryz.prog 187 [.val (.int .u64 x), .val (.int .u64 y)] [] (Det (.tup [.val (.int .u64 (x * y / 18446744073709551616)), .val (.int .u64 (x * y % 18446744073709551616))]) []) := by
 obtain ⟨p, q, hp, hq, hxy, bp, bq⟩ := parts x y h0 h1 h2 h3
 have e1 : y / 4294967296 = 0 := by omega
 have e2 : y % 4294967296 = y := by omega
 refine Runs.mk tabOK Tryz.call187 Tryz.func187 rfl Tryz.ntmps187 Tryz.results187 rfl ?_
 (repeat' (first
  | (intro Q h; refine h ?_; clear h Q)
  | refine And.intro (by first | omega | ((try simp only [wS]); omega) | rfl | decide) ?_
  | (apply ret_mk []; (focus (iterate 2 (all_goals (repeat' (first | exact subL_nil | exact trivial | refine And.intro ?_ ?_ | refine subL_cons ?_ ?_ | refine sub_tup ?_ | exact sub_refl_val _ _ | refine sub_int ?_ ))))); (any_goals (apply okIx_mk; rfl)))
  ))
 all_goals
  rw [hxy]
  (try (simp (disch := omega) only [and_mask, shr32, e1, e2, hp, hq, Int.mul_zero, Int.add_zero, uw_id]))
 all_goals (first | omega )
theorem mul_ok (y : Int) (h2 : 0 ≤ y) (h3 : y ≤ 4294967295) :
  Runs Tryz.prog 149 [.val (.int .u64 1), .val (.int .u64 y)] [] (Det (.tup [.val (.int .u64 0), .val (.int .u64 y)]) []) := by
 have e := mul64_ok 1 y (by decide) (by decide) h2 h3
 rw [Int.one_mul, show y / 18446744073709551616 = 0 by omega, show y % 18446744073709551616 = y by omega] at e
 refine Runs.mk tabOK Tryz.call149 Tryz.func149 rfl Tryz.ntmps149 Tryz.results149 rfl ?_
 (repeat' (first
  | (intro Q h; refine h ?_; clear h Q)
  | ((first | apply call0 (e) ); (focus ((iterate 2 (all_goals (repeat' (first | exact subL_nil | refine subL_cons ?_ ?_ | exact sub_refl_val _ _ )))); done)))
  | (apply ret_mk []; (focus (iterate 2 (all_goals (repeat' (first | exact subL_nil | exact trivial | refine And.intro ?_ ?_ | refine subL_cons ?_ ?_ | refine sub_tup ?_ | exact sub_refl_val _ _ ))))); (any_goals (apply okIx_mk; rfl)))
  ))
abbrev repB (n x : Nat) (v : Int) : Blk := .arr true 3 1 n fun i _ => .val (.int .i64 (if i < x then v else 0))
theorem rep_sub {ρ : Nat → Option Nat} {n x m : Nat} {v : Int} {c : Nat → Nat → AV} (hm : m = n) (h : ∀ i, i < n → c i 0 = .val (.int .i64 (if i < x then v else 0))) : BSub ρ (repB n x v) (.arr true 3 1 m c) :=
 bsub_arr (fun _ => rfl) hm (fun i hi j hj => by
  obtain rfl : j = 0 := by omega
  rw [h i hi]; exact sub_refl_val _ _)
theorem rep_out {ρ : Nat → Option Nat} {n x : Nat} {v : Int} (hx : n ≤ x) : BSub ρ (iB true (List.replicate n v)) (.arr true 3 1 n fun i _ => .val (.int .i64 (if i < x then v else 0))) :=
 bsub_arr (fun _ => rfl) (by simp) (fun i hi j hj => by
  obtain rfl : j = 0 := by omega
  simp only [List.length_replicate] at hi
  have : rowF intC 0 (List.replicate n v) i 0 = .val (.int .i64 v) := by
   unfold rowF
   rw [List.getD_eq_getElem?_getD, List.getElem?_replicate, if_pos hi]; rfl
  show sub ρ (rowF intC 0 (List.replicate n v) i 0) _
  rw [this, if_pos (show i < x by omega)]; exact sub_refl_val _ _)
theorem repeat_ok (n : Nat) (h1 : 1 ≤ n) (h2 : n ≤ 1000) (v : Int) (cap : Option Nat) :
  Runs Tryz.prog 117 [.sl 0 1 0 1 cap, .val (.int .i64 n)] [iB false [v]] (Det (.sl 1 1 0 n none) [iB false [v], iB true (List.replicate n v)]) := by
 have e0 : IntKind.u64.wrap ((n : Nat) : Int) = n := by rw [uw]; omega
 have e1 : IntKind.u64.wrap 1 = 1 := by rfl
 have e2 : IntKind.i64.wrap ((n : Nat) : Int) = n := cwrap (by omega) (by omega)
 have e := mul_ok n (by omega) (by omega)
 refine Runs.mk tabOK Tryz.call117 Tryz.func117 rfl Tryz.ntmps117 Tryz.results117 rfl ?_
 (repeat' (first
  | (intro Q h; refine h ?_; clear h Q)
  | refine bcase_f (by decide) ?_
  | (refine bcase_mk (fun hb => ?_) (fun hb => ?_) <;> (try simp only [nS, nT, eq_self, reduceCtorEq] at hb))
  | refine seq_go ?_
  | refine And.intro (by first | omega | ((try simp only [wS]); omega) | rfl | decide) ?_
  | (simp only [e0, e1, e2])
  | ((first | apply call0 (e) ); (focus ((iterate 2 (all_goals (repeat' (first | exact subL_nil | refine subL_cons ?_ ?_ | exact sub_refl_val _ _ )))); done)))
  | omega))
 refine ⟨1, fun i _ => .val (.int .i64 (if i < 1 then v else 0)), ⟨by omega, by omega, fun i hi j hj => ?_⟩, ?_⟩
 ·obtain rfl : j = 0 := by omega
  rcases i with _ | i
  ·rfl
  ·show AV.val (.int .i64 (if i + 1 < 1 then v else 0)) = _
   rw [if_neg (by omega)]
   unfold cpF
   rw [show (Nat.ble 0 (i + 1) && Nat.blt (i + 1) (0 + 1)) = false from rfl]
   rfl
 (repeat' (first
  | (intro Q h; refine h ?_; clear h Q)
  | refine seq_go ?_
  ))
 refine loop_inv (σ := Nat) (fun x => 1 ≤ x ∧ x ≤ n) (fun x => ⟨[(7, .sl 1 1 0 n none), (8, .val (.int .i64 x))], [iB false [v], repB n x v]⟩) (fun x => n - x) (1) ?_ ?_ ?_
 ·omega
 ·(apply le_mk [some 0, some 1]; (focus (iterate 2 (all_goals (repeat' (first | exact trivial | (intro Q h; refine h ?_; clear h Q) | refine And.intro ?_ ?_ | exact sub_sl rfl rfl rfl | exact sub_refl_val _ _ | exact row_same rfl rfl rfl ))))); (any_goals (apply okIx_mk; rfl)))
  all_goals (exact rep_sub (by omega) (fun i hi => rfl))
 rintro x ⟨hx1, hx2⟩
 have e3 : IntKind.i64.wrap ((x : Nat) : Int) = x := cwrap (by omega) (by omega)
 (repeat' (first
  | (intro Q h; refine h ?_; clear h Q)
  | (refine bcase_mk (fun hb => ?_) (fun hb => ?_) <;> (try simp only [nS, nT, eq_self, reduceCtorEq] at hb))
  | refine seq_go ?_
  | refine And.intro (by first | omega | ((try simp only [wS]); omega) | rfl | decide) ?_
  | (simp only [e0, e1, e2, e3])
  | (apply ret_mk [some 0, some 1]; (focus (iterate 2 (all_goals (repeat' (first | exact trivial | (intro Q h; refine h ?_; clear h Q) | refine And.intro ?_ ?_ | exact sub_sl rfl rfl rfl | exact row_same rfl rfl rfl ))))); (any_goals (apply okIx_mk; rfl)))
  ))
 ·refine ⟨min x (n - x), fun i _ => .val (.int .i64 (if i < x + min x (n - x) then v else 0)), ⟨by omega, by omega, fun i hi j hj => ?_⟩, ?_⟩
  ·obtain rfl : j = 0 := by omega
   unfold cpF
   rw [Int.toNat_natCast, Nat.zero_add]
   cases hc : (Nat.ble x i && Nat.blt i (x + min x (n - x))) with
   | true =>
    simp [Nat.blt] at hc
    rw [cond_true]
    show AV.val (.int .i64 (if i < x + min x (n - x) then v else 0)) = AV.val (.int .i64 (if _ < x then v else 0))
    rw [if_pos (by omega), if_pos (by omega)]
   | false =>
    rw [cond_false]
    show AV.val (.int .i64 (if i < x + min x (n - x) then v else 0)) = AV.val (.int .i64 (if i < x then v else 0))
    congr 2
    by_cases h3 : i < x
    ·rw [if_pos h3, if_pos (by omega)]
    ·rw [if_neg h3, if_neg]
     intro h4
     have : (Nat.ble x i && Nat.blt i (x + min x (n - x))) = true := by simp [Nat.blt]; omega
     rw [this] at hc; cases hc
  have e4 : IntKind.i64.wrap ((x : Int) + (min x (n - x) : Nat)) = ((x + min x (n - x) : Nat) : Int) := by rw [cwrap (by omega) (by omega)]; omega
  (repeat' (first
  | (intro Q h; refine h ?_; clear h Q)
  | refine And.intro (by first | omega | ((try simp only [wS]); omega) | rfl | decide) ?_
  | (simp only [e0, e1, e2, e3, e4])
  | (apply next_sub (Subtype.mk (x + min x (n - x)) _); (focus (apply le_mk [some 0, some 1]; (focus (iterate 2 (all_goals (repeat' (first | exact trivial | (intro Q h; refine h ?_; clear h Q) | refine And.intro ?_ ?_ | exact sub_sl rfl rfl rfl | exact sub_refl_val _ _ | exact row_same rfl rfl rfl ))))); (any_goals (apply okIx_mk; rfl)))); (all_goals (try (first | omega | (simp only; omega)))))
  ))
  all_goals (try (first | exact rep_sub (by omega) (fun i hi => rfl) ))
 ·exact rep_out (by omega)
theorem unknown_ok (n : Nat) (h1 : 1 ≤ n) (h2 : n ≤ 1000) (l : List Ed) (cap : Option Nat) :
  Runs Tryz.prog 75 [gA n l cap] [gB l] (Det (.sl 1 1 0 n none) [gB l, iB true (List.replicate n (-1))]) := by
 refine Runs.mk tabOK Tryz.call75 Tryz.func75 rfl Tryz.ntmps75 Tryz.results75 rfl ?_
 (repeat' (first
  | (intro Q h; refine h ?_; clear h Q)
  | ((first | apply call1 (repeat_ok n h1 h2 (-1) _) ); (focus (iterate 2 (all_goals (repeat' (first | exact subL_nil | exact trivial | (intro Q h; refine h ?_; clear h Q) | refine And.intro ?_ ?_ | refine subL_cons ?_ ?_ | exact sub_sl rfl rfl rfl | exact sub_refl_val _ _ | refine cells_succ ?_ ?_ | exact cell0 | (apply row_lit rfl; (focus (refine cells_succ ?_ ?_))) ))))); (try (any_goals fail)))
  | (apply ret_mk [some 0, some 3]; (focus (iterate 2 (all_goals (repeat' (first | exact trivial | (intro Q h; refine h ?_; clear h Q) | refine And.intro ?_ ?_ | exact sub_sl rfl rfl rfl | exact row_same rfl rfl rfl | exact row_ren rfl rfl rfl ))))); (any_goals (apply okIx_mk; rfl)))
  ))
end Go.Vx.L58

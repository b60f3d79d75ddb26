/- Lemmas of a small executor for the model, and contracts of functions, used for the law that this claim proves. No condition. -/
import Derived.Test.YtodbfpjjahpahaaDoorBE0
set_option linter.unusedSimpArgs false
set_option linter.unusedVariables false
set_option maxRecDepth 100000
namespace Go.Vx.L42
open Go Go.Proofs
theorem uw (n : Int) : IntKind.u64.wrap n = n % 18446744073709551616 := by rw [IntKind.wrap_u64]
theorem b54 {a : Int} (h0 : 0 <= a) (h1 : a < 18446744073709551616) : (BitVec.ofInt IntKind.u64.bits a).toNat = a.toNat := by
 rw [BitVec.toNat_ofInt]
 show (a % ((2:Int)^64)).toNat = a.toNat
 congr 1
 exact Int.emod_eq_of_lt h0 h1
theorem c2o {a : Int} (h0 : 0 <= a) (h1 : a < 18446744073709551616) : IntKind.u64.wrap ((BitVec.ofInt IntKind.u64.bits a &&& BitVec.ofInt IntKind.u64.bits 4294967295).toNat : Int) = a % 4294967296 := by
 rw [BitVec.toNat_and, b54 h0 h1, b54 (by decide) (by decide)]
 have : (4294967295 : Int).toNat = 2 ^ 32 - 1 := by decide
 rw [this, Nat.and_two_pow_sub_one_eq_mod, uw]
 omega
theorem c8u (a : Int) (h : 0 <= a) : a.fdiv (2 ^ (min (Int.toNat 32) IntKind.u64.bits)) = a / 4294967296 := by
 have : ((2:Int) ^ (min (Int.toNat 32) IntKind.u64.bits)) = 4294967296 := by decide
 rw [this, Int.fdiv_eq_ediv_of_nonneg _ (by decide)]
theorem c9u {a : Int} (h0 : 0 <= a) (h1 : a < 18446744073709551616) : IntKind.u64.wrap a = a := by rw [uw]; omega
theorem parts (x y : Int) (h0 : 0 <= x) (h1 : x <= 1125899906842624) (h2 : 0 <= y) (h3 : y <= 4294967295) :
  ∃ p q : Int, x % 4294967296 * y = p /\ x / 4294967296 * y = q /\ x * y = q * 4294967296 + p /\ (0 <= p /\ p <= 18446744069414584320) /\ (0 <= q /\ q <= 1125899906580480) := by
 refine ⟨_, _, rfl, rfl, ?_, ⟨?_, ?_⟩, ⟨?_, ?_⟩⟩
 ·have h := Int.mul_ediv_add_emod x 4294967296
  calc x * y = (4294967296 * (x / 4294967296) + x % 4294967296) * y := by rw [h]
   _ = _ := by rw [Int.add_mul, Int.mul_assoc, Int.mul_comm]
 ·exact Int.mul_nonneg (by omega) h2
 ·have : x % 4294967296 * y <= 4294967296 * 4294967295 := Int.mul_le_mul (by omega) h3 h2 (by decide)
  omega
 ·exact Int.mul_nonneg (by omega) h2
 ·have : x / 4294967296 * y <= 262144 * 4294967295 := Int.mul_le_mul (by omega) h3 h2 (by decide)
  omega
theorem c2b (x y : Int) (h0 : 0 <= x) (h1 : x <= 1125899906842624) (h2 : 0 <= y) (h3 : y <= 4294967295) :
  Runs Tryd.prog 104 [.val (.int .u64 x), .val (.int .u64 y)] [] (Det (.tup [.val (.int .u64 (x * y / 18446744073709551616)), .val (.int .u64 (x * y % 18446744073709551616))]) []) := by
 obtain ⟨p, q, hp, hq, hxy, bp, bq⟩ := parts x y h0 h1 h2 h3
 have e1 : y / 4294967296 = 0 := by omega
 have e2 : y % 4294967296 = y := by omega
 refine Runs.mk a1a Tryd.call104 Tryd.func104 rfl Tryd.ntmps104 Tryd.results104 rfl ?_
 (repeat' (first
  | refine SP ?_
  | refine OB ?_
  | (apply a04 []; (focus (iterate 2 (all_goals (repeat' (first | exact a0c | exact trivial | refine And.intro ?_ ?_ | refine a0b ?_ ?_ | refine a3m ?_ | exact a0a _ _ | refine a0r ?_ ))))); any_goals (apply a0h; rfl))
  ))
 all_goals
  rw [hxy]
  (try (simp (disch := omega) only [c2o, c8u, e1, e2, hp, hq, Int.mul_zero, Int.add_zero, c9u]))
 all_goals (omega)
theorem c70 (y : Int) (h2 : 0 <= y) (h3 : y <= 4294967295) :
  Runs Tryd.prog 85 [.val (.int .u64 1), .val (.int .u64 y)] [] (Det (.tup [.val (.int .u64 0), .val (.int .u64 y)]) []) := by
 have e := c2b 1 y (by decide) (by decide) h2 h3
 rw [Int.one_mul, show y / 18446744073709551616 = 0 by omega, show y % 18446744073709551616 = y by omega] at e
 refine Runs.mk a1a Tryd.call85 Tryd.func85 rfl Tryd.ntmps85 Tryd.results85 rfl ?_
 (repeat' (first
  | refine SP ?_
  | ((first | apply a2d (e) ); (focus ((iterate 2 (all_goals (repeat' (first | exact a0c | refine a0b ?_ ?_ | exact a0a _ _ )))); done)))
  | (apply a04 []; (focus (iterate 2 (all_goals (repeat' (first | exact a0c | exact trivial | refine And.intro ?_ ?_ | refine a0b ?_ ?_ | refine a3m ?_ | exact a0a _ _ ))))); any_goals (apply a0h; rfl))
  ))
abbrev c9x (n x : Nat) (v : Int) : Blk := .arr true 3 1 n fun i _ => .val (.int .i64 (if i < x then v else 0))
theorem b86 {ρ : Nat -> Option Nat} {n x m : Nat} {v : Int} {c : Nat -> Nat -> AV} (hm : m = n) (h : ∀ i, i < n -> c i 0 = .val (.int .i64 (if i < x then v else 0))) : a3n ρ (c9x n x v) (.arr true 3 1 m c) :=
 a1w (fun _ => rfl) hm (fun i hi j hj => by
  obtain rfl : j = 0 := by omega
  rw [h i hi]; exact a0a _ _)
theorem c4t {ρ : Nat -> Option Nat} {n x : Nat} {v : Int} (hx : n <= x) : a3n ρ (iB true (List.replicate n v)) (.arr true 3 1 n fun i _ => .val (.int .i64 (if i < x then v else 0))) :=
 a1w (fun _ => rfl) (by simp) (fun i hi j hj => by
  obtain rfl : j = 0 := by omega
  simp only [List.length_replicate] at hi
  have : a2x a78 0 (List.replicate n v) i 0 = .val (.int .i64 v) := by
   unfold a2x
   rw [List.getD_eq_getElem?_getD, List.getElem?_replicate, if_pos hi]; rfl
  show sub ρ (a2x a78 0 (List.replicate n v) i 0) _
  rw [this, if_pos (show i < x by omega)]; exact a0a _ _)
theorem c1g (n : Nat) (h1 : 1 <= n) (h2 : n <= 1000) (v : Int) (cap : Option Nat) :
  Runs Tryd.prog 73 [.sl 0 1 0 1 cap, .val (.int .i64 n)] [iB false [v]] (Det (.sl 1 1 0 n none) [iB false [v], iB true (List.replicate n v)]) := by
 have e0 : IntKind.u64.wrap ((n : Nat) : Int) = n := by rw [uw]; omega
 have e1 : IntKind.u64.wrap 1 = 1 := by rfl
 have e2 : IntKind.i64.wrap ((n : Nat) : Int) = n := c04 (by omega) (by omega)
 have e := c70 n (by omega) (by omega)
 refine Runs.mk a1a Tryd.call73 Tryd.func73 rfl Tryd.ntmps73 Tryd.results73 rfl ?_
 (repeat' (first
  | refine SP ?_
  | refine a05 (by decide) ?_
  | (apply a0g <;> intro hb <;> (try simp only [nS, nT, eq_self, reduceCtorEq] at hb))
  | refine a0l ?_
  | refine OB ?_
  | (simp only [e0, e1, e2])
  | ((first | apply a2d (e) ); (focus ((iterate 2 (all_goals (repeat' (first | exact a0c | refine a0b ?_ ?_ | exact a0a _ _ )))); done)))
  | omega))
 refine ⟨1, fun i _ => .val (.int .i64 (if i < 1 then v else 0)), ⟨by omega, by omega, fun i hi j hj => ?_⟩, ?_⟩
 ·obtain rfl : j = 0 := by omega
  rcases i with _ | i
  ·rfl
  ·show AV.val (.int .i64 (if i + 1 < 1 then v else 0)) = _
   rw [if_neg (by omega)]
   unfold cpF
   rw [show (Nat.ble 0 (i + 1) && Nat.blt (i + 1) (0 + 1)) = false from rfl]
   rfl
 (repeat' (first
  | refine SP ?_
  | refine a0l ?_
  ))
 refine a00 (σ := Nat) (fun x => 1 <= x /\ x <= n) (fun x => ⟨[(7, .sl 1 1 0 n none), (8, .val (.int .i64 x))], [iB false [v], c9x n x v]⟩) (fun x => n - x) (1) ?_ ?_ ?_
 ·omega
 ·(apply a0t [some 0, some 1]; (focus (iterate 2 (all_goals (repeat' (first | exact trivial | refine SP ?_ | refine And.intro ?_ ?_ | exact a0i rfl rfl rfl | exact a0a _ _ | exact a0f rfl rfl rfl ))))); any_goals (apply a0h; rfl))
  all_goals (exact b86 (by omega) (fun i hi => rfl))
 rintro x ⟨hx1, hx2⟩
 have e3 : IntKind.i64.wrap ((x : Nat) : Int) = x := c04 (by omega) (by omega)
 (repeat' (first
  | refine SP ?_
  | (apply a0g <;> intro hb <;> (try simp only [nS, nT, eq_self, reduceCtorEq] at hb))
  | refine a0l ?_
  | refine OB ?_
  | (simp only [e0, e1, e2, e3])
  | (apply a04 [some 0, some 1]; (focus (iterate 2 (all_goals (repeat' (first | exact trivial | refine SP ?_ | refine And.intro ?_ ?_ | exact a0i rfl rfl rfl | exact a0f rfl rfl rfl ))))); any_goals (apply a0h; rfl))
  ))
 ·refine ⟨min x (n - x), fun i _ => .val (.int .i64 (if i < x + min x (n - x) then v else 0)), ⟨by omega, by omega, fun i hi j hj => ?_⟩, ?_⟩
  ·obtain rfl : j = 0 := by omega
   unfold cpF
   rw [Int.toNat_natCast, Nat.zero_add]
   cases hc : (Nat.ble x i && Nat.blt i (x + min x (n - x))) with
   | true =>
    simp [Nat.blt] at hc
    rw [cond_true]
    show AV.val (.int .i64 (if i < x + min x (n - x) then v else 0)) = AV.val (.int .i64 (if _ < x then v else 0))
    rw [if_pos (by omega), if_pos (by omega)]
   | false =>
    rw [cond_false]
    show AV.val (.int .i64 (if i < x + min x (n - x) then v else 0)) = AV.val (.int .i64 (if i < x then v else 0))
    congr 2
    by_cases h3 : i < x
    ·rw [if_pos h3, if_pos (by omega)]
    ·rw [if_neg h3, if_neg]
     intro h4
     have : (Nat.ble x i && Nat.blt i (x + min x (n - x))) = true := by simp [Nat.blt]; omega
     rw [this] at hc; cases hc
  have e4 : IntKind.i64.wrap ((x : Int) + (min x (n - x) : Nat)) = ((x + min x (n - x) : Nat) : Int) := by rw [c04 (by omega) (by omega)]; omega
  (repeat' (first
  | refine SP ?_
  | refine OB ?_
  | (simp only [e0, e1, e2, e3, e4])
  | (apply a0m (Subtype.mk (x + min x (n - x)) _); (focus (apply a0t [some 0, some 1]; (focus (iterate 2 (all_goals (repeat' (first | exact trivial | refine SP ?_ | refine And.intro ?_ ?_ | exact a0i rfl rfl rfl | exact a0a _ _ | exact a0f rfl rfl rfl ))))); any_goals (apply a0h; rfl))); (all_goals (try (first | omega | (simp only; omega)))))
  ))
  all_goals (try (first | exact b86 (by omega) (fun i hi => rfl) ))
 ·exact c4t (by omega)
theorem b7h (n : Nat) (h1 : 1 <= n) (h2 : n <= 1000) (l : List Ed) (cap : Option Nat) :
  Runs Tryd.prog 48 [gA n l cap] [gB l] (Det (.sl 1 1 0 n none) [gB l, iB true (List.replicate n (-1))]) := by
 refine Runs.mk a1a Tryd.call48 Tryd.func48 rfl Tryd.ntmps48 Tryd.results48 rfl ?_
 (repeat' (first
  | refine SP ?_
  | ((first | apply a1y (c1g n h1 h2 (-1) _) ); (focus (iterate 2 (all_goals (repeat' (first | exact a0c | exact trivial | refine SP ?_ | refine And.intro ?_ ?_ | refine a0b ?_ ?_ | exact a0i rfl rfl rfl | exact a0a _ _ | refine a0y ?_ ?_ | exact a2o | (apply a4e rfl; (focus (refine a0y ?_ ?_))) ))))); (try (any_goals fail)))
  | (apply a04 [some 0, some 3]; (focus (iterate 2 (all_goals (repeat' (first | exact trivial | refine SP ?_ | refine And.intro ?_ ?_ | exact a0i rfl rfl rfl | exact a0f rfl rfl rfl | exact a06 rfl rfl rfl ))))); any_goals (apply a0h; rfl))
  ))
end Go.Vx.L42

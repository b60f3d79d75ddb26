/- Lemmas of a small executor for the model, and contracts of functions, used for the law that this claim proves. No condition. -/
import Derived.Test.YtodbfpjjahpahaaGreatDoorEW3
import Derived.Test.YtodbfpjjahpahaaGreatDoorEMC
set_option linter.unusedSimpArgs false
set_option linter.unusedVariables false
set_option maxRecDepth 100000
namespace Go.Vx.L58.PT
open Go Go.Proofs Go.Vx.L58 Go.Vx.L58.MD
theorem a8c {n : Int} (h1 : -9223372036854775808 <= n) (h2 : n <= 9223372036854775807) : IntKind.i64.wrap n = n := c7x h1 h2
theorem c7t (a b : Int) (h0 : 0 <= a) (h1 : a <= 1125899906842624) (h2 : 0 <= b) (h3 : b <= 1000000000) (h4 : a * b <= 9223372036854775807) :
  Runs Tryz.prog 153 [.val (.int .i64 a), .val (.int .i64 b)] [] (Det (.tup [.val (.int .i64 (a * b)), .sb true]) []) := by
 have p0 := Int.mul_nonneg h0 h2
 have m1 := b73 a b h0 (by omega) h2 h3
 have s1 := size_pos a h0 (by omega)
 have s2 := size_pos b h2 (by omega)
 have s4 := b4v (a * b) p0 h4 false
 rw [show a * b / 18446744073709551616 = 0 from by omega, show a * b % 18446744073709551616 = a * b from by omega] at m1
 have e0 : decide (a < 0) = false := decide_eq_false (by omega)
 have e1 : decide (b < 0) = false := decide_eq_false (by omega)
 refine Runs.mk a0k Tryz.call153 Tryz.func153 rfl Tryz.ntmps153 Tryz.results153 rfl ?_
 (repeat' (first
  | refine SP ?_
  | refine a1d (by decide) ?_
  | refine a0c ?_
  | ((first | apply a0t (s1) ); exact AS)
  | ((first | apply a0t (s2) ); exact AS)
  | ((first | apply a0t (m1) ); exact AS)
  | ((first | apply a0t (s4) ); (focus (iterate 2 (all_goals (repeat' (first | exact a0g | refine a0d ?_ ?_ | exact a0b _ _ | refine a1m ?_ ))))))
  | exact RT []
  ))
 all_goals (first | (rw [e0, e1]; rfl) )
theorem c8n (a b : Int) (h0 : 0 <= a) (h2 : 0 <= b) (h4 : a + b <= 9223372036854775807) :
  Runs Tryz.prog 154 [.val (.int .i64 a), .val (.int .i64 b)] [] (Det (.tup [.val (.int .i64 (a + b)), .sb true]) []) := by
 have e2 : IntKind.i64.wrap (a + b) = a + b := a8c (by omega) (by omega)
 have e0 : decide (a < 0) = false := decide_eq_false (by omega)
 have e1 : decide (b < 0) = false := decide_eq_false (by omega)
 have e3 : decide (a + b < 0) = false := decide_eq_false (by omega)
 refine Runs.mk a0k Tryz.call154 Tryz.func154 rfl Tryz.ntmps154 Tryz.results154 rfl ?_
 (repeat' (first
  | refine SP ?_
  | (apply a0a <;> intro hb <;> (try simp only [nS, nT, eq_self, reduceCtorEq] at hb))
  | refine a0c ?_
  | (apply a0v []; (focus (iterate 2 (all_goals (repeat' (first | exact a0g | exact trivial | refine And.intro ?_ ?_ | refine a0d ?_ ?_ | refine a1c ?_ | exact a0w rfl | ((refine a0f ?_); first | with_reducible rfl | omega | ((try simp only [wS]); omega) | rfl) | refine a0f ?_ | refine a0w ?_ ))))); any_goals (apply a0e; rfl))
  ))
 all_goals (first | (simp [e0, e1, e2, e3] at *; done) )
theorem b07 (a b : Int) (h0 : 0 <= a) (h1 : a <= 9223372036854775807) (h2 : 0 < b) (h3 : b <= 9223372036854775807) :
  Runs Tryz.prog 158 [.val (.int .i64 a), .val (.int .i64 b)] [] (Det (.tup [.val (.int .i64 (a / b)), .val (.int .i64 (a % b)), .sb true]) []) := by
 have k0 : 0 <= a / b := Int.ediv_nonneg h0 (by omega)
 have k1 : a / b <= a := Int.ediv_le_self _ h0
 refine Runs.mk a0k Tryz.call158 Tryz.func158 rfl Tryz.ntmps158 Tryz.results158 rfl ?_
 (repeat' (first
  | refine SP ?_
  | (apply a0a <;> intro hb <;> (try simp only [nS, nT, eq_self, reduceCtorEq] at hb))
  | refine a0q (by decide +kernel) ?_
  | refine a0c ?_
  | refine OB ?_
  | (apply a0v []; (focus (iterate 2 (all_goals (repeat' (first | exact a0g | exact trivial | refine And.intro ?_ ?_ | refine a0d ?_ ?_ | refine a1c ?_ | exact a0w rfl | ((refine a0f ?_); first | with_reducible rfl | omega | ((try simp only [wS]); omega) | rfl) | refine a0f ?_ | refine a0w ?_ ))))); any_goals (apply a0e; rfl))
  | omega))
 all_goals (first | (rw [a5p _ h0, a8c (by omega) (by omega)]; done) | (rw [a60 _ h0]; done) )
theorem b3s (a : Int) (h0 : 0 <= a) (h1 : a <= 9223372036854775807) :
  Runs Tryz.prog 131 [.val (.int .i64 a), .val (.int .i64 65536)] [] (Det (.tup [.val (.int .i64 (a / 65536)), .sb true]) []) := by
 have d := b07 a 65536 h0 h1 (by omega) (by omega)
 refine Runs.mk a0k Tryz.call131 Tryz.func131 rfl Tryz.ntmps131 Tryz.results131 rfl ?_
 (repeat' (first
  | refine SP ?_
  | (apply a0a <;> intro hb <;> (try simp only [nS, nT, eq_self, reduceCtorEq] at hb))
  | refine a0c ?_
  | ((first | apply a0t (d) ); exact AS)
  | (apply a0v []; (focus (iterate 2 (all_goals (repeat' (first | exact a0g | exact trivial | refine And.intro ?_ ?_ | refine a0d ?_ ?_ | refine a1c ?_ | exact a0b _ _ | exact a1m rfl | refine a0f ?_ ))))); any_goals (apply a0e; rfl))
  ))
 all_goals
  exfalso
  apply hb
  have q1 : decide (a % 65536 < 0) = false := decide_eq_false (by omega)
  rw [q1]
  rfl
theorem b8t (a : Int) (h0 : 0 <= a) (h1 : a <= 9223372036854775807) :
  Runs Tryz.prog 95 [.val (.int .i64 a)] [] (Det (.val (.int .i64 (a / 65536))) []) := by
 have d := b3s a h0 h1
 refine Runs.mk a0k Tryz.call95 Tryz.func95 rfl Tryz.ntmps95 Tryz.results95 rfl ?_
 (repeat' (first
  | refine SP ?_
  | ((first | apply a0t (d) ); exact AS)
  | exact RT []
  ))
theorem c9n (a : Int) (h0 : 0 <= a) (h1 : a <= 1125899906842) :
  Runs Tryz.prog 229 [.val (.int .i64 a)] [] (Det (.tup [.val (.int .i64 (a * 65536)), .val (.int .i64 0)]) []) := by
 have d := c7t a 65536 h0 (by omega) (by omega) (by omega) (by omega)
 refine Runs.mk a0k Tryz.call229 Tryz.func229 rfl Tryz.ntmps229 Tryz.results229 rfl ?_
 (repeat' (first
  | refine SP ?_
  | (apply a0a <;> intro hb <;> (try simp only [nS, nT, eq_self, reduceCtorEq] at hb))
  | refine a0c ?_
  | ((first | apply a0t (d) ); exact AS)
  | exact RT []
  ))
theorem c0l (a b : Int) (h0 : 0 <= a) (h2 : 0 <= b) (h4 : a + b <= 9223372036854775807) :
  Runs Tryz.prog 230 [.val (.int .i64 a), .val (.int .i64 b)] [] (Det (.tup [.val (.int .i64 (a + b)), .sb true]) []) := by
 have d := c8n a b h0 h2 h4
 refine Runs.mk a0k Tryz.call230 Tryz.func230 rfl Tryz.ntmps230 Tryz.results230 rfl ?_
 (repeat' (first
  | refine SP ?_
  | (with_reducible refine a01 ?_)
  | refine a0c ?_
  | ((first | apply a0t (d) ); exact AS)
  | exact RT []
  ))
end Go.Vx.L58.PT
set_option maxRecDepth 100000
namespace Go.Vx.L58.PT
open Go Go.Proofs Go.Vx.L58 Go.Vx.L58.MD
abbrev stA (s n : Int) : AV := .agg [.val (.int .i64 s), .val (.int .i64 n)]
theorem b5o (s n : Int) (h0 : 0 <= s) (h1 : s <= 281474976710655) (h2 : 0 <= n) (h3 : n < 1000000000) :
  Runs Tryz.prog 152 [stA s n] [] (Det (.val (.int .i64 0)) []) := by
 refine Runs.mk a0k Tryz.call152 Tryz.func152 rfl Tryz.ntmps152 Tryz.results152 rfl ?_
 (repeat' (first
  | refine SP ?_
  | (apply a0a <;> intro hb <;> (try simp only [nS, nT, eq_self, reduceCtorEq] at hb))
  | refine a0c ?_
  | exact RT []
  ))
abbrev a4k (t : Int) : Int := t / 1000000000 - 2208988800
abbrev a4o (t : Int) : Int := t % 1000000000
theorem d3b (t : Int) (h0 : 2208988800000000000 <= t) (h1 : t <= 8000000000000000000) :
  Runs Tryz.prog 43 [.val (.int .i64 t)] [] (Det (.tup [stA (a4k t) (a4o t), .val (.int .i64 0)]) []) := by
 have e1 : a4k t = t / 1000000000 - 2208988800 := rfl
 refine Runs.mk a0k Tryz.call43 Tryz.func43 rfl Tryz.ntmps43 Tryz.results43 rfl ?_
 (repeat' (first
  | refine SP ?_
  | (apply a0a <;> intro hb <;> (try simp only [nS, nT, eq_self, reduceCtorEq] at hb))
  | refine a0c ?_
  | refine OB ?_
  | (apply a0v []; (focus (iterate 2 (all_goals (repeat' (first | exact a0g | exact trivial | refine And.intro ?_ ?_ | refine a0d ?_ ?_ | refine a1i ?_ | refine a1c ?_ | exact a0b _ _ | ((refine a0f ?_); first | with_reducible rfl | omega | ((try simp only [wS]); omega) | rfl) | refine a0f ?_ ))))); any_goals (apply a0e; rfl))
  ))
 all_goals (first | (rw [a5p _ (by omega), e1]; simp only [IntKind.wrap_i64]; omega) | (rw [a60 _ (by omega)]; done) )
theorem c8x (t : Int) (h0 : 2208988800000000000 <= t) (h1 : t <= 8000000000000000000) :
  Runs Tryz.prog 129 [stA (a4k t) (a4o t)] [] (Det (.tup [.val (.int .i64 t), .val (.int .i64 0)]) []) := by
 have e1 : a4k t = t / 1000000000 - 2208988800 := rfl
 have e2 : a4o t = t % 1000000000 := rfl
 have c := b5o (a4k t) (a4o t) (by omega) (by omega) (by omega) (by omega)
 have w : IntKind.i64.wrap (a4k t + 2208988800) = t / 1000000000 := by simp only [IntKind.wrap_i64]; omega
 have m := c7t (t / 1000000000) 1000000000 (by omega) (by omega) (by omega) (by omega) (by omega)
 have a := c8n (t / 1000000000 * 1000000000) (a4o t) (by omega) (by omega) (by omega)
 have e : t / 1000000000 * 1000000000 + a4o t = t := by omega
 rw [e] at a
 rw [<- w] at m a
 refine Runs.mk a0k Tryz.call129 Tryz.func129 rfl Tryz.ntmps129 Tryz.results129 rfl ?_
 (repeat' (first
  | refine SP ?_
  | (with_reducible refine a01 ?_)
  | (apply a0a <;> intro hb <;> (try simp only [nS, nT, eq_self, reduceCtorEq] at hb))
  | refine a0c ?_
  | ((first | apply a0t (c) ); exact AS)
  | ((first | apply a0t (m) ); exact AS)
  | ((first | apply a0t (a) ); exact AS)
  | exact RT []
  ))
theorem a8i (n : Int) : Runs Tryz.prog 92 [.val (.int .i64 n)] [] (Det (.sb (decide (-4503599627370496 <= n /\ n <= 4503599627370496))) []) := by
 refine Runs.mk a0k Tryz.call92 Tryz.func92 rfl Tryz.ntmps92 Tryz.results92 rfl ?_
 (repeat' (first
  | refine SP ?_
  | (apply a0a <;> intro hb <;> (try simp only [nS, nT, eq_self, reduceCtorEq] at hb))
  | (apply a0v []; (focus (iterate 2 (all_goals (repeat' (first | exact trivial | refine And.intro ?_ ?_ | refine a1m ?_ | refine a0w ?_ ))))); any_goals (apply a0e; rfl))
  ))
 all_goals (first | (rw [Bool.eq_iff_iff]; simp only [Bool.and_eq_true, Bool.or_eq_true, Bool.not_eq_true', Bool.not_eq_false', Bool.not_eq_true, decide_eq_true_eq, decide_eq_false_iff_not, beq_iff_eq, beq_eq_false_iff_ne, bne_iff_ne, ne_eq, Bool.false_eq_true, reduceCtorEq, true_iff, iff_true, false_iff, iff_false, not_and, not_or, eq_self, IntKind.wrap_i64]; first | omega | (constructor <;> intros <;> first | omega | (refine And.intro ?_ ?_ <;> omega))))
theorem b08 (n : Int) (h0 : -4503599627370496 <= n) (h1 : n <= 4503599627370496) : Runs Tryz.prog 92 [.val (.int .i64 n)] [] (Det (.sb true) []) := by
 have := a8i n
 rw [decide_eq_true ⟨h0, h1⟩] at this
 exact this
theorem b1t (t : Int) (h0 : -4503599627370496 <= t) (h1 : t <= 4503599627370496) :
  Runs Tryz.prog 88 [stA (a4k (3900000000000000000 + t)) (a4o (3900000000000000000 + t))] [] (Det (.tup [.val (.int .i64 t), .sb true]) []) := by
 have m := c8x (3900000000000000000 + t) (by omega) (by omega)
 have w : IntKind.i64.wrap (3900000000000000000 + t - 3900000000000000000) = t := by simp only [IntKind.wrap_i64]; omega
 have r := b08 t h0 h1
 generalize hs : 3900000000000000000 + t = T at *
 rw [<- w] at r
 rw [<- w]
 refine Runs.mk a0k Tryz.call88 Tryz.func88 rfl Tryz.ntmps88 Tryz.results88 rfl ?_
 (repeat' (first
  | refine SP ?_
  | refine a1d (by decide) ?_
  | refine a0c ?_
  | ((first | apply a0t (m) ); exact AS)
  | ((first | apply a0t (r) ); exact AS)
  | exact RT []
  ))
end Go.Vx.L58.PT
set_option maxRecDepth 100000
namespace Go.Vx.L58.PT
open Go Go.Proofs Go.Vx.L58 Go.Vx.L58.MD
theorem d5e : Runs Tryz.prog 155 [.val (.int .i64 0)] [] (Det (.val (.int .i64 44)) []) := by
 refine Runs.mk a0k Tryz.call155 Tryz.func155 rfl Tryz.ntmps155 Tryz.results155 rfl ?_
 (repeat' (first
  | refine SP ?_
  | refine a18 (by first | exact beq_self_eq_true _ | decide) ?_
  | exact RT []
  ))
theorem d5h : Runs Tryz.prog 155 [.val (.int .i64 1)] [] (Det (.val (.int .i64 44)) []) := by
 refine Runs.mk a0k Tryz.call155 Tryz.func155 rfl Tryz.ntmps155 Tryz.results155 rfl ?_
 (repeat' (first
  | refine SP ?_
  | refine a18 (by first | exact beq_self_eq_true _ | decide) ?_
  | exact RT []
  ))
theorem d5d : Runs Tryz.prog 155 [.val (.int .i64 9)] [] (Det (.val (.int .i64 54)) []) := by
 refine Runs.mk a0k Tryz.call155 Tryz.func155 rfl Tryz.ntmps155 Tryz.results155 rfl ?_
 (repeat' (first
  | refine SP ?_
  | refine a18 (by first | exact beq_self_eq_true _ | decide) ?_
  | exact RT []
  ))
theorem a7u (k : Int) : Runs Tryz.prog 157 [.val (.int .i64 k)] [] (Det (.sb (decide (k = 9 \/ k = 3 \/ k = 10))) []) := by
 refine Runs.mk a0k Tryz.call157 Tryz.func157 rfl Tryz.ntmps157 Tryz.results157 rfl ?_
 (repeat' (first
  | refine SP ?_
  | (apply a0a <;> intro hb <;> (try simp only [nS, nT, eq_self, reduceCtorEq] at hb))
  | (apply a0v []; (focus (iterate 2 (all_goals (repeat' (first | exact trivial | refine And.intro ?_ ?_ | refine a1m ?_ | refine a0w ?_ ))))); any_goals (apply a0e; rfl))
  ))
 all_goals (first | (rw [Bool.eq_iff_iff]; simp only [Bool.and_eq_true, Bool.or_eq_true, Bool.not_eq_true', Bool.not_eq_false', Bool.not_eq_true, decide_eq_true_eq, decide_eq_false_iff_not, beq_iff_eq, beq_eq_false_iff_ne, bne_iff_ne, ne_eq, Bool.false_eq_true, reduceCtorEq, true_iff, iff_true, false_iff, iff_false, not_and, not_or, eq_self, IntKind.wrap_i64]; first | omega | (constructor <;> intros <;> first | omega | (refine And.intro ?_ ?_ <;> omega))))
structure Mg where
 k : Int
 corr : Int
 clock : Int
 seq : Int
 sec : Int
 nano : Int
 rc : Int
 rp : Int
abbrev z64 : AV := .val (.int .i64 0)
abbrev mgL (m : Mg) : List AV := [.val (.int .i64 m.k), z64, z64, .val (.int .i64 m.corr), .val (.int .u64 m.clock), .val (.int .i64 1), .val (.int .i64 m.seq), z64, .val (.int .i64 m.sec), .val (.int .i64 m.nano), .val (.int .u64 m.rc), .val (.int .i64 m.rp), z64, z64, z64, z64, z64, z64, .val (.int .u64 0), z64, z64]
abbrev mgA (m : Mg) : AV := .agg (mgL m)
structure MgOK (m : Mg) : Prop where
 seq : 0 <= m.seq /\ m.seq <= 65535
 sec : 0 <= m.sec /\ m.sec <= 281474976710655
 nano : 0 <= m.nano /\ m.nano < 1000000000
 rp : 0 <= m.rp /\ m.rp <= 65535
 kind : (m.k = 0 \/ m.k = 1) /\ m.rc = 0 /\ m.rp = 0 \/ m.k = 9
abbrev F3 := Int × Int × Int
def f3C (p : F3) : List AV := [.val (.int .i64 p.1), .val (.int .i64 p.2.1), .val (.int .i64 p.2.2)]
theorem c6m : Flat f3C := fun x v h => by simp [f3C] at h; rcases h with rfl | rfl | rfl <;> trivial
instance : FlatC f3C := ⟨c6m⟩
def d1q (m : Mg) : List F3 := [(0, 0, 255), (0, 0, 65535), (1, 0, 65535), (m.seq, 0, 65535), (0, -128, 127), (m.rp, 0, 65535), (0, -32768, 32767), (0, 0, 255), (0, 0, 255), (0, 0, 255), (0, 0, 65535), (0, 0, 255), (0, 0, 65535), (0, 0, 255)]
theorem d03 {m : Mg} (h : MgOK m) : ∀ k, k < 14 -> ((d1q m).getD k (0, 0, 0)).2.1 <= ((d1q m).getD k (0, 0, 0)).1 /\ ((d1q m).getD k (0, 0, 0)).1 <= ((d1q m).getD k (0, 0, 0)).2.2 := by
 obtain ⟨a1, a2, a3, a4, _⟩ := h
 intro k hk
 have : k = 0 \/ k = 1 \/ k = 2 \/ k = 3 \/ k = 4 \/ k = 5 \/ k = 6 \/ k = 7 \/ k = 8 \/ k = 9 \/ k = 10 \/ k = 11 \/ k = 12 \/ k = 13 := by omega
 rcases this with rfl | rfl | rfl | rfl | rfl | rfl | rfl | rfl | rfl | rfl | rfl | rfl | rfl | rfl <;> simp [d1q] <;> omega
set_option maxHeartbeats 1000000 in
theorem c1m (m : Mg) (h : MgOK m) : Runs Tryz.prog 156 [mgA m] [] (Det (.sb true) []) := by
 have hf := d03 h
 obtain ⟨a1, a2, a3, a4, _⟩ := h
 have c := b5o m.sec m.nano a2.1 a2.2 a3.1 a3.2
 refine Runs.mk a0k Tryz.call156 Tryz.func156 rfl Tryz.ntmps156 Tryz.results156 rfl ?_
 (repeat' (first
  | refine SP ?_
  | refine a0c ?_
  ))
 refine c9l (σ := { k : Nat // k <= 14 }) (fun k => ⟨[(1, .ptr 0 21 0 0), (50, .sl 1 3 0 14 (some 14)), (51, .val (.int .i64 14)), (52, .val (.int .i64 k.1))], [.var (mgL m), .arr true 261 3 14 (a2e f3C (0, 0, 0) (d1q m))]⟩) (fun k => 14 - k.1) ⟨0, by omega⟩ ?_ ?_
 ·(apply a04 [some 0, some 2]; (focus (iterate 2 (all_goals (repeat' (first | exact a0g | exact trivial | refine SP ?_ | refine And.intro ?_ ?_ | refine a0d ?_ ?_ | refine a09 ?_ | exact a0z rfl rfl | exact a0r rfl rfl rfl | exact a0b _ _ | refine a0o ?_ ?_ | exact a3c | (apply a3g rfl; (focus (refine a0o ?_ ?_))) ))))); any_goals (apply a0e; rfl))
 rintro ⟨k, hk⟩
 have hfk := hf (0 + Int.toNat (k : Int))
 (repeat' (first
  | refine SP ?_
  | (apply a0a <;> intro hb <;> (try simp only [nS, nT, eq_self, reduceCtorEq] at hb))
  | refine a0c ?_
  | refine OB ?_
  | ((first | apply a0t (c) ); exact AS)
  | (apply a0v []; (focus (iterate 2 (all_goals (repeat' (first | exact trivial | refine And.intro ?_ ?_ | exact a1m rfl | refine a0w ?_ ))))); any_goals (apply a0e; rfl))
  | (refine d01 (⟨k + 1, by omega⟩) (by first | (simp; omega) | omega) ?_; exact LT [some 0, some 1])
  | omega))
end Go.Vx.L58.PT
set_option maxRecDepth 100000
namespace Go.Vx.L58.PT
open Go Go.Proofs Go.Vx.L58 Go.Vx.L58.MD
set_option maxHeartbeats 1000000 in
theorem a68 (m : Mg) (h : MgOK m) : Runs Tryz.prog 130 [mgA m] [] (Det (.val (.int .i64 0)) []) := by
 have r := c1m m h
 obtain ⟨_, _, _, _, hk⟩ := h
 obtain ⟨k, corr, clock, seq, sec, nano, rc, rp⟩ := m
 simp only at hk r
 rcases hk with ⟨rfl | rfl, rfl, rfl⟩ | rfl
 ·have a := a7u 0
  refine Runs.mk a0k Tryz.call130 Tryz.func130 rfl Tryz.ntmps130 Tryz.results130 rfl ?_
  (repeat' (first
  | refine SP ?_
  | refine a18 (by first | exact beq_self_eq_true _ | decide) ?_
  | refine a1d (by decide) ?_
  | (apply a0a <;> intro hb <;> (try simp only [nS, nT, eq_self, reduceCtorEq] at hb))
  | refine a0c ?_
  | ((first | apply a0t (d5e) ); exact AS)
  | ((first | apply a0t (r) ); exact AS)
  | ((first | apply a0t (a) ); exact AS)
  | exact RT []
  ))
 ·have a := a7u 1
  refine Runs.mk a0k Tryz.call130 Tryz.func130 rfl Tryz.ntmps130 Tryz.results130 rfl ?_
  (repeat' (first
  | refine SP ?_
  | refine a18 (by first | exact beq_self_eq_true _ | decide) ?_
  | refine a1d (by decide) ?_
  | (apply a0a <;> intro hb <;> (try simp only [nS, nT, eq_self, reduceCtorEq] at hb))
  | refine a0c ?_
  | ((first | apply a0t (d5h) ); exact AS)
  | ((first | apply a0t (r) ); exact AS)
  | ((first | apply a0t (a) ); exact AS)
  | exact RT []
  ))
 ·have a := a7u 9
  refine Runs.mk a0k Tryz.call130 Tryz.func130 rfl Tryz.ntmps130 Tryz.results130 rfl ?_
  (repeat' (first
  | refine SP ?_
  | refine a1d (by decide) ?_
  | (apply a0a <;> intro hb <;> (try simp only [nS, nT, eq_self, reduceCtorEq] at hb))
  | refine a0c ?_
  | ((first | apply a0t (d5d) ); exact AS)
  | ((first | apply a0t (r) ); exact AS)
  | ((first | apply a0t (a) ); exact AS)
  | exact RT []
  ))
abbrev a84 (m : Mg) (t : Int) : Mg := { m with corr := m.corr + t * 65536 }
set_option maxHeartbeats 1000000 in
theorem b9e (m : Mg) (t : Int) (h0 : 0 <= t) (h1 : t <= 34359738368) (h2 : 0 <= m.corr) (h3 : m.corr <= 1152921504606846976) :
  Runs Tryz.prog 227 [mgA m, .val (.int .i64 t)] [] (Det (.tup [mgA (a84 m t), .sb true]) []) := by
 have c := c9n t h0 (by omega)
 have a := c0l m.corr (t * 65536) h2 (by omega) (by omega)
 refine Runs.mk a0k Tryz.call227 Tryz.func227 rfl Tryz.ntmps227 Tryz.results227 rfl ?_
 (repeat' (first
  | refine SP ?_
  | refine a1d (by decide) ?_
  | refine a0c ?_
  | ((first | apply a0t (c) ); exact AS)
  | ((first | apply a0t (a) ); exact AS)
  | exact RT []
  ))
set_option maxHeartbeats 1000000 in
theorem d1h (m : Mg) (h : MgOK m) (t : Int) (h0 : 0 <= t) (h1 : t <= 34359738368) (h2 : 0 <= m.corr) (h3 : m.corr <= 1152921504606846976) :
  Runs Tryz.prog 225 [mgA m, .val (.int .i64 t), .val (.int .i64 0)] [] (Det (.tup [mgA (a84 m t), .val (.int .i64 0)]) []) := by
 have c := a68 m h
 have k := b9e m t h0 h1 h2 h3
 have w : IntKind.i64.wrap (t + 0) = t := by simp only [IntKind.wrap_i64]; omega
 have hk : m.k ≠ 11 := by have := h.kind; omega
 rw [<- w] at k
 rw [<- w]
 refine Runs.mk a0k Tryz.call225 Tryz.func225 rfl Tryz.ntmps225 Tryz.results225 rfl ?_
 (repeat' (first
  | refine SP ?_
  | refine a1d (by decide) ?_
  | (apply a0a <;> intro hb <;> (try simp only [nS, nT, eq_self, reduceCtorEq] at hb))
  | refine a0c ?_
  | ((first | apply a0t (c) ); exact AS)
  | ((first | apply a0t (k) ); exact AS)
  | exact RT []
  ))
end Go.Vx.L58.PT

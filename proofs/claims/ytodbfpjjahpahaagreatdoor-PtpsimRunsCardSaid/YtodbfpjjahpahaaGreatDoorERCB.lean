/- Lemmas of a small executor for the model, and contracts of functions, used for the law that this claim proves. No condition. -/
import Derived.Test.YtodbfpjjahpahaaGreatDoorEW3
import Derived.Test.YtodbfpjjahpahaaGreatDoorERCA
import Derived.Test.YtodbfpjjahpahaaGreatDoorEPTA
import Derived.Test.YtodbfpjjahpahaaGreatDoorEPS1
import Derived.Test.YtodbfpjjahpahaaGreatDoorEPTB
import Derived.Test.YtodbfpjjahpahaaGreatDoorERC1
set_option linter.unusedSimpArgs false
set_option linter.unusedVariables false
set_option maxRecDepth 100000
namespace Go.Vx.L58.PT
open Go Go.Proofs Go.Vx.L58 Go.Vx.L58.MD
theorem c03 (a b : Int) (h0 : 0 <= a) (h1 : a <= 4503599627370496) (h2 : 0 <= b) (h3 : b <= 1000000000) (h4 : a * b <= 9223372036854775807) :
  Runs Tryz.prog 172 [.val (.int .i64 a), .val (.int .i64 b)] [] (Det (.tup [.val (.int .i64 (a * b)), .sb true]) []) := by
 have p0 := Int.mul_nonneg h0 h2
 have m1 := b15 a b h0 h1 h2 h3
 have s1 := a3p a h0 (by omega)
 have s2 := a3p b h2 (by omega)
 have e1 : decide (a < 0) = false := decide_eq_false (by omega)
 have e2 : decide (b < 0) = false := decide_eq_false (by omega)
 generalize a * b = P at *
 have q1 : P / 18446744073709551616 = 0 := by omega
 have q2 : P % 18446744073709551616 = P := by omega
 rw [q1, q2] at m1
 have s4 := a8e P p0 (by omega)
 refine Runs.mk a0k Tryz.call172 Tryz.func172 rfl Tryz.ntmps172 Tryz.results172 rfl ?_
 (repeat' (first
  | refine SP ?_
  | ((first | apply a0t (s1) ); exact AS)
  | ((first | apply a0t (s2) ); exact AS)
  | ((first | apply a0t (m1) ); exact AS)
  | ((first | apply a0t (s4 _) ); exact AS)
  | (apply a0v []; (focus (iterate 2 (all_goals (repeat' (first | exact a0g | exact trivial | refine And.intro ?_ ?_ | refine a0d ?_ ?_ | refine a1c ?_ | exact a1m rfl | refine a0f ?_ ))))); any_goals (apply a0e; rfl))
  ))
 all_goals first
  | (rw [e1, e2]; rfl)
  | (exfalso; rw [e1, e2] at hb; cases hb)
  | fail
theorem c8r (a b : Int) (h0 : 0 <= a) (h2 : 0 <= b) (h4 : a + b <= 9223372036854775807) :
  Runs Tryz.prog 194 [.val (.int .i64 a), .val (.int .i64 b)] [] (Det (.tup [.val (.int .i64 (a + b)), .sb true]) []) := by
 have w1 : IntKind.i64.wrap (9223372036854775807 - a) = 9223372036854775807 - a := by rw [IntKind.wrap_i64]; omega
 have w2 : IntKind.i64.wrap (9223372036854775807 - b) = 9223372036854775807 - b := by rw [IntKind.wrap_i64]; omega
 have w3 : IntKind.i64.wrap (a + b) = a + b := by rw [IntKind.wrap_i64]; omega
 refine Runs.mk a0k Tryz.call194 Tryz.func194 rfl Tryz.ntmps194 Tryz.results194 rfl ?_
 (repeat' (first
  | refine SP ?_
  | (apply a0a <;> intro hb <;> (try simp only [nS, nT, eq_self, reduceCtorEq] at hb))
  | refine a0c ?_
  | (apply a0v []; (focus (iterate 2 (all_goals (repeat' (first | exact a0g | exact trivial | refine And.intro ?_ ?_ | refine a0d ?_ ?_ | refine a1c ?_ | exact a0w rfl | ((refine a0f ?_); first | with_reducible rfl | omega | ((try simp only [wS]); omega) | rfl) | refine a0w ?_ ))))); any_goals (apply a0e; rfl))
  | omega))
 all_goals first | exact w3 | (exfalso; simp only [w1, w2] at *; omega) | fail
theorem b9z (a : Int) (h0 : 0 <= a) (h1 : a <= 288230376151711744) : Runs Tryz.prog 144 [.val (.int .i64 a), .val (.int .i64 65536)] [] (Det (.tup [.val (.int .i64 (a / 65536)), .sb true]) []) := by
 have h := MF.rfloor_ok a h0 h1
 refine Runs.mk a0k Tryz.call144 Tryz.func144 rfl Tryz.ntmps144 Tryz.results144 rfl ?_
 (repeat' (first
  | refine SP ?_
  | ((first | apply a0t (h) ); exact AS)
  | exact RT []
  ))
theorem b4d (a : Int) (h0 : 0 <= a) (h1 : a <= 288230376151711744) : Runs Tryz.prog 108 [.val (.int .i64 a)] [] (Det (.val (.int .i64 (a / 65536))) []) := by
 have h := b9z a h0 h1
 refine Runs.mk a0k Tryz.call108 Tryz.func108 rfl Tryz.ntmps108 Tryz.results108 rfl ?_
 (repeat' (first
  | refine SP ?_
  | ((first | apply a0t (h) ); exact AS)
  | exact RT []
  ))
theorem b6y (n p : Int) (h0 : 0 <= n) (h1 : n <= 2251799813685248) (hp : -500000 <= p /\ p <= 500000) : Runs Tryz.prog 166 [.val (.int .i64 n), .val (.int .i64 p)] [] (Det (.tup [.val (.int .i64 (usF n p)), .sb true]) []) := by
 have hw : IntKind.i64.wrap (1000000000 + p) = 1000000000 + p := by rw [IntKind.wrap_i64]; omega
 have h := b7m n 1000000000 (1000000000 + p) h0 (by omega) (by omega) (by omega) (by omega) (by omega)
 rw [<- hw] at h
 unfold usF
 rw [<- hw]
 generalize hN : n * 1000000000 / IntKind.i64.wrap (1000000000 + p) = q at *
 refine Runs.mk a0k Tryz.call166 Tryz.func166 rfl Tryz.ntmps166 Tryz.results166 rfl ?_
 (repeat' (first
  | refine SP ?_
  | (apply a0a <;> intro hb <;> (try simp only [nS, nT, eq_self, reduceCtorEq] at hb))
  | refine a0c ?_
  | ((first | apply a0t (h) ); exact AS)
  | (apply a0v []; (focus (iterate 2 (all_goals (repeat' (first | exact a0g | exact trivial | refine And.intro ?_ ?_ | refine a0d ?_ ?_ | refine a1c ?_ | exact a0b _ _ | exact a1m rfl | ((refine a0f ?_); first | with_reducible rfl | omega | ((try simp only [wS]); omega) | rfl) | refine a0w ?_ ))))); any_goals (apply a0e; rfl))
  | omega))
theorem c5h (a b p : Int) (ha : -4503599627370496 <= a /\ a <= 4503599627370496) (hb : -4503599627370496 <= b /\ b <= 4503599627370496) (hab : a <= b) (h1 : b - a <= 2251799813685248) (hp : -500000 <= p /\ p <= 500000) :
  Runs Tryz.prog 139 [.val (.int .i64 a), .val (.int .i64 b), .val (.int .i64 p)] [] (Det (.tup [.val (.int .i64 (usF (b - a) p)), .val (.int .i64 0)]) []) := by
 have hw : IntKind.i64.wrap (b - a) = b - a := by rw [IntKind.wrap_i64]; omega
 have h := b6y (b - a) p (by omega) h1 hp
 rw [<- hw] at h
 rw [show usF (b - a) p = usF (IntKind.i64.wrap (b - a)) p by rw [hw]]
 generalize usF (IntKind.i64.wrap (b - a)) p = q at *
 refine Runs.mk a0k Tryz.call139 Tryz.func139 rfl Tryz.ntmps139 Tryz.results139 rfl ?_
 (repeat' (first
  | refine SP ?_
  | (apply a0a <;> intro hb <;> (try simp only [nS, nT, eq_self, reduceCtorEq] at hb))
  | refine a0c ?_
  | ((first | apply a0t (h) ); exact AS)
  | exact RT []
  ))
 all_goals (exfalso; omega)
theorem d2x (t : Int) (h0 : 2208988800000000000 <= t) (h1 : t <= 8000000000000000000) :
  Runs Tryz.prog 102 [.val (.int .i64 t)] [] (Det (.tup [.agg [.val (.int .i64 (a4k t)), .val (.int .i64 (a4o t))], .val (.int .i64 0)]) []) := by
 have e2 := a5p (a := t) 1000000000 (by omega)
 have e3 := a60 (a := t) 1000000000 (by omega)
 refine Runs.mk a0k Tryz.call102 Tryz.func102 rfl Tryz.ntmps102 Tryz.results102 rfl ?_
 (repeat' (first
  | refine SP ?_
  | (apply a0a <;> intro hb <;> (try simp only [nS, nT, eq_self, reduceCtorEq] at hb))
  | refine a0c ?_
  | refine OB ?_
  | (apply a0v []; (focus (iterate 2 (all_goals (repeat' (first | exact a0g | exact trivial | refine And.intro ?_ ?_ | refine a0d ?_ ?_ | refine a1i ?_ | refine a1c ?_ | exact a0b _ _ | ((refine a0f ?_); first | with_reducible rfl | omega | ((try simp only [wS]); omega) | rfl) | refine a0f ?_ ))))); any_goals (apply a0e; rfl))
  ))
 all_goals (simp only [e2, e3, a4k, a4o, IntKind.wrap_i64]; omega)
theorem b1o (s n : Int) (h0 : 0 <= s) (h1 : s <= 281474976710655) (h2 : 0 <= n) (h3 : n < 1000000000) :
  Runs Tryz.prog 170 [.agg [.val (.int .i64 s), .val (.int .i64 n)]] [] (Det (.val (.int .i64 0)) []) := by
 refine Runs.mk a0k Tryz.call170 Tryz.func170 rfl Tryz.ntmps170 Tryz.results170 rfl ?_
 (repeat' (first
  | refine SP ?_
  | (apply a0a <;> intro hb <;> (try simp only [nS, nT, eq_self, reduceCtorEq] at hb))
  | refine a0c ?_
  | exact RT []
  ))
 all_goals (exfalso; omega)
theorem c61 (t : Int) (h0 : 2208988800000000000 <= t) (h1 : t <= 7999999999000000000) :
  Runs Tryz.prog 143 [.agg [.val (.int .i64 (a4k t)), .val (.int .i64 (a4o t))]] [] (Det (.tup [.val (.int .i64 t), .val (.int .i64 0)]) []) := by
 have hs : a4k t = t / 1000000000 - 2208988800 := rfl
 have hn : a4o t = t % 1000000000 := rfl
 have hc := b1o (a4k t) (a4o t) (by omega) (by omega) (by omega) (by omega)
 have w1 : IntKind.i64.wrap (a4k t + 2208988800) = a4k t + 2208988800 := by rw [IntKind.wrap_i64]; omega
 have hm := c03 (a4k t + 2208988800) 1000000000 (by omega) (by omega) (by omega) (by omega) (by omega)
 have w2 : IntKind.i64.wrap (8000000000000000000 - a4o t) = 8000000000000000000 - a4o t := by rw [IntKind.wrap_i64]; omega
 have w3 : IntKind.i64.wrap ((a4k t + 2208988800) * 1000000000 + a4o t) = t := by rw [IntKind.wrap_i64]; omega
 have w4 : (a4k t + 2208988800) * 1000000000 = t - a4o t := by omega
 rw [<- w1] at hm
 rw [w1] at hm
 generalize a4k t = s at *
 generalize a4o t = n at *
 refine Runs.mk a0k Tryz.call143 Tryz.func143 rfl Tryz.ntmps143 Tryz.results143 rfl ?_
 (repeat' (first
  | refine SP ?_
  | (apply a0a <;> intro hb <;> (try simp only [nS, nT, eq_self, reduceCtorEq] at hb))
  | refine a0c ?_
  | ((first | apply a0t (hc) ); exact AS)
  | ((first | apply a0t (hm) ); exact AS)
  | exact RT []
  ))
 all_goals first | exact w3 | (exfalso; rw [w2] at hb; omega) | fail
end Go.Vx.L58.PT
set_option maxRecDepth 100000
namespace Go.Vx.L58.PT
open Go Go.Proofs Go.Vx.L58 Go.Vx.L58.MD
theorem d4d : Runs Tryz.prog 168 [.val (.int .i64 0)] [] (Det (.val (.int .i64 44)) []) := by
 refine Runs.mk a0k Tryz.call168 Tryz.func168 rfl Tryz.ntmps168 Tryz.results168 rfl ?_
 (repeat' (first
  | refine SP ?_
  | refine a18 (by first | exact beq_self_eq_true _ | decide) ?_
  | refine a0c ?_
  | exact RT []
  ))
theorem d4n : Runs Tryz.prog 168 [.val (.int .i64 1)] [] (Det (.val (.int .i64 44)) []) := by
 refine Runs.mk a0k Tryz.call168 Tryz.func168 rfl Tryz.ntmps168 Tryz.results168 rfl ?_
 (repeat' (first
  | refine SP ?_
  | refine a18 (by first | exact beq_self_eq_true _ | decide) ?_
  | refine a1d (by decide) ?_
  | refine a0c ?_
  | exact RT []
  ))
theorem d2i : Runs Tryz.prog 168 [.val (.int .i64 9)] [] (Det (.val (.int .i64 54)) []) := by
 refine Runs.mk a0k Tryz.call168 Tryz.func168 rfl Tryz.ntmps168 Tryz.results168 rfl ?_
 (repeat' (first
  | refine SP ?_
  | refine a18 (by first | exact beq_self_eq_true _ | decide) ?_
  | refine a1d (by decide) ?_
  | refine a0c ?_
  | exact RT []
  ))
theorem a9v (n a b : Int) (h : a <= n /\ n <= b) : Runs Tryz.prog 169 [.val (.int .i64 n), .val (.int .i64 a), .val (.int .i64 b)] [] (Det (.sb true) []) := by
 obtain ⟨h1, h2⟩ := h
 refine Runs.mk a0k Tryz.call169 Tryz.func169 rfl Tryz.ntmps169 Tryz.results169 rfl ?_
 (repeat' (first
  | refine SP ?_
  | (apply a0a <;> intro hb <;> (try simp only [nS, nT, eq_self, reduceCtorEq] at hb))
  | (apply a0v []; (focus (iterate 2 (all_goals (repeat' (first | exact trivial | refine And.intro ?_ ?_ | refine a1m ?_ | refine a0w ?_ ))))); any_goals (apply a0e; rfl))
  | omega))
 all_goals first | (exfalso; omega) | exact (decide_eq_true h2).symm | exact (decide_eq_true h2) | fail
theorem a6d (k : Int) : Runs Tryz.prog 171 [.val (.int .i64 k)] [] (Det (.sb (decide (k = 9 \/ k = 3 \/ k = 10))) []) := by
 refine Runs.mk a0k Tryz.call171 Tryz.func171 rfl Tryz.ntmps171 Tryz.results171 rfl ?_
 (repeat' (first
  | refine SP ?_
  | (apply a0a <;> intro hb <;> (try simp only [nS, nT, eq_self, reduceCtorEq] at hb))
  | (apply a0v []; (focus (iterate 2 (all_goals (repeat' (first | exact trivial | refine And.intro ?_ ?_ | refine a1m ?_ | refine a0w ?_ ))))); any_goals (apply a0e; rfl))
  ))
 all_goals (first | (rw [Bool.eq_iff_iff]; simp only [Bool.and_eq_true, Bool.or_eq_true, Bool.not_eq_true', Bool.not_eq_false', Bool.not_eq_true, decide_eq_true_eq, decide_eq_false_iff_not, beq_iff_eq, beq_eq_false_iff_ne, bne_iff_ne, ne_eq, Bool.false_eq_true, reduceCtorEq, true_iff, iff_true, false_iff, iff_false, not_and, not_or, eq_self, IntKind.wrap_i64]; first | omega | (constructor <;> intros <;> first | omega | (refine And.intro ?_ ?_ <;> omega))))
set_option maxHeartbeats 8000000 in
theorem a95 (m : Mg) (h : MgOK m) : Runs Tryz.prog 142 [mgA m] [] (Det (.val (.int .i64 0)) []) := by
 obtain ⟨a1, a2, a3, a4, hk⟩ := h
 have hc := b1o m.sec m.nano a2.1 a2.2 a3.1 a3.2
 have i1 := a9v 0 0 255 (by omega)
 have i2 := a9v 0 0 65535 (by omega)
 have i3 := a9v 1 0 65535 (by omega)
 have i4 := a9v m.seq 0 65535 a1
 have i5 := a9v 0 (-128) 127 (by omega)
 have i6 := a9v m.rp 0 65535 a4
 have i7 := a9v 0 (-32768) 32767 (by omega)
 obtain ⟨k, corr, clock, seq, sec, nano, rc, rp⟩ := m
 simp only at *
 rcases hk with ⟨rfl | rfl, rfl, rfl⟩ | rfl
 ·have hr := a6d 0
  rw [show decide ((0 : Int) = 9 \/ (0 : Int) = 3 \/ (0 : Int) = 10) = false by decide] at hr
  refine Runs.mk a0k Tryz.call142 Tryz.func142 rfl Tryz.ntmps142 Tryz.results142 rfl ?_
  (repeat' (first
  | refine SP ?_
  | refine a18 (by first | exact beq_self_eq_true _ | decide) ?_
  | refine a1d (by decide) ?_
  | (apply a0a <;> intro hb <;> (try simp only [nS, nT, eq_self, reduceCtorEq] at hb))
  | refine a0c ?_
  | ((first | apply a0t (d4d) ); exact AS)
  | ((first | apply a0t (i1) ); exact AS)
  | ((first | apply a0t (i2) ); exact AS)
  | ((first | apply a0t (i3) ); exact AS)
  | ((first | apply a0t (i4) ); exact AS)
  | ((first | apply a0t (i5) ); exact AS)
  | ((first | apply a0t (i7) ); exact AS)
  | ((first | apply a0t (hc) ); exact AS)
  | ((first | apply a0t (hr) ); exact AS)
  | exact RT []
  ))
 ·have hr := a6d 1
  rw [show decide ((1 : Int) = 9 \/ (1 : Int) = 3 \/ (1 : Int) = 10) = false by decide] at hr
  refine Runs.mk a0k Tryz.call142 Tryz.func142 rfl Tryz.ntmps142 Tryz.results142 rfl ?_
  (repeat' (first
  | refine SP ?_
  | refine a18 (by first | exact beq_self_eq_true _ | decide) ?_
  | refine a1d (by decide) ?_
  | (apply a0a <;> intro hb <;> (try simp only [nS, nT, eq_self, reduceCtorEq] at hb))
  | refine a0c ?_
  | ((first | apply a0t (d4n) ); exact AS)
  | ((first | apply a0t (i1) ); exact AS)
  | ((first | apply a0t (i2) ); exact AS)
  | ((first | apply a0t (i3) ); exact AS)
  | ((first | apply a0t (i4) ); exact AS)
  | ((first | apply a0t (i5) ); exact AS)
  | ((first | apply a0t (i7) ); exact AS)
  | ((first | apply a0t (hc) ); exact AS)
  | ((first | apply a0t (hr) ); exact AS)
  | exact RT []
  ))
 ·have hr := a6d 9
  rw [show decide ((9 : Int) = 9 \/ (9 : Int) = 3 \/ (9 : Int) = 10) = true by decide] at hr
  refine Runs.mk a0k Tryz.call142 Tryz.func142 rfl Tryz.ntmps142 Tryz.results142 rfl ?_
  (repeat' (first
  | refine SP ?_
  | refine a1d (by decide) ?_
  | (apply a0a <;> intro hb <;> (try simp only [nS, nT, eq_self, reduceCtorEq] at hb))
  | refine a0c ?_
  | ((first | apply a0t (d2i) ); exact AS)
  | ((first | apply a0t (i1) ); exact AS)
  | ((first | apply a0t (i2) ); exact AS)
  | ((first | apply a0t (i3) ); exact AS)
  | ((first | apply a0t (i4) ); exact AS)
  | ((first | apply a0t (i5) ); exact AS)
  | ((first | apply a0t (i6) ); exact AS)
  | ((first | apply a0t (i7) ); exact AS)
  | ((first | apply a0t (hc) ); exact AS)
  | ((first | apply a0t (hr) ); exact AS)
  | exact RT []
  ))
theorem b6w (m : Mg) (t : Int) (h0 : 0 <= t) (h1 : t <= 34359738368) (h2 : 0 <= m.corr) (h3 : m.corr <= 1152921504606846976) :
  Runs Tryz.prog 167 [mgA m, .val (.int .i64 t)] [] (Det (.tup [mgA (a84 m t), .val (.int .i64 0)]) []) := by
 have hm := c03 t 65536 h0 (by omega) (by omega) (by omega) (by omega)
 have ha := c8r m.corr (t * 65536) h2 (by omega) (by omega)
 refine Runs.mk a0k Tryz.call167 Tryz.func167 rfl Tryz.ntmps167 Tryz.results167 rfl ?_
 (repeat' (first
  | refine SP ?_
  | (apply a0a <;> intro hb <;> (try simp only [nS, nT, eq_self, reduceCtorEq] at hb))
  | refine a0c ?_
  | ((first | apply a0t (hm) ); exact AS)
  | ((first | apply a0t (ha) ); exact AS)
  | exact RT []
  ))
theorem c5c (m : Mg) (h : MgOK m) (t : Int) (h0 : 0 <= t) (h1 : t <= 34359738368) (h2 : 0 <= m.corr) (h3 : m.corr <= 1152921504606846976) :
  Runs Tryz.prog 141 [mgA m, .val (.int .i64 t), .val (.int .i64 0)] [] (Det (.tup [mgA (a84 m t), .val (.int .i64 0)]) []) := by
 have hck := a95 m h
 have hco := b6w m t h0 h1 h2 h3
 have w1 : IntKind.i64.wrap (t + 0) = t := by rw [IntKind.wrap_i64]; omega
 obtain ⟨_, _, _, _, a5⟩ := h
 have hk : m.k ≠ 11 := by rcases a5 with ⟨hk, _⟩ | hk <;> omega
 rw [<- w1] at hco
 have hco' : Runs Tryz.prog 167 [mgA m, .val (.int .i64 (IntKind.i64.wrap (t + 0)))] [] (Det (.tup [mgA (a84 m t), .val (.int .i64 0)]) []) := by rw [w1] at hco ⊢; exact hco
 refine Runs.mk a0k Tryz.call141 Tryz.func141 rfl Tryz.ntmps141 Tryz.results141 rfl ?_
 (repeat' (first
  | refine SP ?_
  | (apply a0a <;> intro hb <;> (try simp only [nS, nT, eq_self, reduceCtorEq] at hb))
  | refine a0c ?_
  | ((first | apply a0t (hck) ); exact AS)
  | ((first | apply a0t (hco') ); exact AS)
  | exact RT []
  ))
 all_goals (exfalso; omega)
end Go.Vx.L58.PT
set_option maxRecDepth 100000
namespace Go.Vx.L58.PT
open Go Go.Proofs Go.Vx.L58 Go.Vx.L58.MD
theorem b2o (t : Int) (h : -4503599627370496 <= t /\ t <= 4503599627370496) : Runs Tryz.prog 107 [.val (.int .i64 t)] [] (Det (.sb true) []) := by
 obtain ⟨h1, h2⟩ := h
 refine Runs.mk a0k Tryz.call107 Tryz.func107 rfl Tryz.ntmps107 Tryz.results107 rfl ?_
 (repeat' (first
  | refine SP ?_
  | (apply a0a <;> intro hb <;> (try simp only [nS, nT, eq_self, reduceCtorEq] at hb))
  | (apply a0v []; (focus (iterate 2 (all_goals (repeat' (first | exact trivial | refine And.intro ?_ ?_ | refine a1m ?_ | refine a0w ?_ ))))); any_goals (apply a0e; rfl))
  | omega))
 all_goals first | (exfalso; omega) | exact (decide_eq_true h2).symm | exact (decide_eq_true h2) | fail
theorem a90 (a : Int) (h : -4503599627370496 <= a /\ a <= 4503599627370496) :
  Runs Tryz.prog 106 [.agg [.val (.int .i64 (a4k (3900000000000000000 + a))), .val (.int .i64 (a4o (3900000000000000000 + a)))]] [] (Det (.tup [.val (.int .i64 a), .sb true]) []) := by
 have ht := c61 (3900000000000000000 + a) (by omega) (by omega)
 have hi := b2o a h
 have w1 : IntKind.i64.wrap (3900000000000000000 + a - 3900000000000000000) = a := by rw [IntKind.wrap_i64]; omega
 rw [<- w1] at hi
 have hi' : Runs Tryz.prog 107 [.val (.int .i64 (IntKind.i64.wrap (3900000000000000000 + a - 3900000000000000000)))] [] (Det (.sb true) []) := by rw [w1] at hi ⊢; exact hi
 generalize a4k (3900000000000000000 + a) = s at *
 generalize a4o (3900000000000000000 + a) = n at *
 refine Runs.mk a0k Tryz.call106 Tryz.func106 rfl Tryz.ntmps106 Tryz.results106 rfl ?_
 (repeat' (first
  | refine SP ?_
  | (apply a0a <;> intro hb <;> (try simp only [nS, nT, eq_self, reduceCtorEq] at hb))
  | refine a0c ?_
  | ((first | apply a0t (ht) ); exact AS)
  | ((first | apply a0t (hi') ); exact AS)
  | exact RT []
  ))
 all_goals first | exact w1 | (exfalso; omega) | fail
structure Rx where
 co : Bool
 ah : Int
 pe : Bool
 sq : Int
 t3 : Int
 kn : Bool
 de : Int
abbrev rxL (x : Rx) : List AV := [z64, .dead, .dead, .dead, .dead, .dead, .dead, .dead, .dead, .dead, .dead, .dead, .dead, .dead, .dead, .dead, .dead, .dead, .dead, .dead, .dead, .dead, .dead, .dead, .sb x.co, .val (.int .i64 x.ah), .sb x.pe, .val (.int .i64 x.sq), .val (.int .i64 x.t3), .sb x.kn, .val (.int .i64 x.de)]
def rx0 : Rx := ⟨false, 0, false, 0, 0, false, 0⟩
theorem c91 : Runs Tryz.prog 59 [z64] [] (Det (.ptr 0 31 0 0) [.var (rxL rx0)]) := by
 refine Runs.mk a0k Tryz.call59 Tryz.func59 rfl Tryz.ntmps59 Tryz.results59 rfl ?_
 (repeat' (first
  | refine SP ?_
  | refine a1d (by decide) ?_
  | refine a0c ?_
  | exact RT [some 0]
  ))
theorem b5s (x : Rx) (m : Mg) (h : MgOK m) : Runs Tryz.prog 105 [.ptr 0 31 0 0, mgA m, .val (.int .i64 m.k)] [.var (rxL x)] (Det z64 [.var (rxL x)]) := by
 have c := a95 m h
 refine Runs.mk a0k Tryz.call105 Tryz.func105 rfl Tryz.ntmps105 Tryz.results105 rfl ?_
 (repeat' (first
  | refine SP ?_
  | refine a1d (by decide) ?_
  | (apply a0a <;> intro hb <;> (try simp only [nS, nT, eq_self, reduceCtorEq] at hb))
  | refine a0q (by decide +kernel) ?_
  | refine a0c ?_
  | ((first | apply a0t (c) ); exact AS)
  | exact RT [some 0]
  ))
set_option maxHeartbeats 1000000 in
theorem c68 (x : Rx) (m : Mg) (h : MgOK m) (hk : m.k = 0) (hc : 0 <= m.corr /\ m.corr <= 288230376151711744) (a : Int) (ha : -4503599627370496 <= a /\ a <= 4503599627370496) (hs : m.sec = a4k (3900000000000000000 + a)) (hn : m.nano = a4o (3900000000000000000 + a))
  (t : Int) (ht : -4503599627370496 <= t /\ t <= 4503599627370496) :
  Runs Tryz.prog 60 [.ptr 0 31 0 0, mgA m, .val (.int .i64 t)] [.var (rxL x)] (Det z64 [.var (rxL { x with co := true, ah := t - a - m.corr / 65536 })]) := by
 have r := b5s x m h
 have i := a90 a ha
 have ti := b2o t ht
 have nn := b4d m.corr hc.1 hc.2
 rw [<- hs, <- hn] at i
 rw [hk] at r
 have w1 : IntKind.i64.wrap (IntKind.i64.wrap (t - a) - m.corr / 65536) = t - a - m.corr / 65536 := by rw [IntKind.wrap_i64, IntKind.wrap_i64]; omega
 generalize m.corr / 65536 = q at *
 have hkk : mgA m = .agg [.val (.int .i64 0), z64, z64, .val (.int .i64 m.corr), .val (.int .u64 m.clock), .val (.int .i64 1), .val (.int .i64 m.seq), z64, .val (.int .i64 m.sec), .val (.int .i64 m.nano), .val (.int .u64 m.rc), .val (.int .i64 m.rp), z64, z64, z64, z64, z64, z64, .val (.int .u64 0), z64, z64] := by rw [mgA, mgL, hk]
 rw [hkk] at r ⊢
 refine Runs.mk a0k Tryz.call60 Tryz.func60 rfl Tryz.ntmps60 Tryz.results60 rfl ?_
 (repeat' (first
  | refine SP ?_
  | refine a18 (by first | exact beq_self_eq_true _ | decide) ?_
  | refine a1d (by decide) ?_
  | refine a0c ?_
  | refine CT [some 0] r ?_
  | ((first | apply a0t (i) ); exact AS)
  | ((first | apply a0t (ti) ); exact AS)
  | ((first | apply a0t (nn) ); exact AS)
  | exact RT [some 0]
  ))
 all_goals first | exact w1 | fail
theorem b7i (x : Rx) (s t : Int) (h0 : 0 <= s /\ s <= 65535) (h1 : -4503599627370496 <= t /\ t <= 4503599627370496) :
  Runs Tryz.prog 61 [.ptr 0 31 0 0, .val (.int .i64 s), .val (.int .i64 t)] [.var (rxL x)] (Det z64 [.var (rxL { x with pe := true, sq := s, t3 := t })]) := by
 have r := b2o t h1
 refine Runs.mk a0k Tryz.call61 Tryz.func61 rfl Tryz.ntmps61 Tryz.results61 rfl ?_
 (repeat' (first
  | refine SP ?_
  | refine a1d (by decide) ?_
  | (apply a0a <;> intro hb <;> (try simp only [nS, nT, eq_self, reduceCtorEq] at hb))
  | refine a0c ?_
  | ((first | apply a0t (r) ); exact AS)
  | (apply a0v [some 0]; (focus (iterate 2 (all_goals (repeat' (first | exact a2z | exact a0g | exact trivial | refine SP ?_ | refine And.intro ?_ ?_ | refine a0d ?_ ?_ | refine a09 ?_ | exact a0b _ _ | exact a1m rfl | exact a0w rfl | ((refine a0f ?_); first | with_reducible rfl | omega | ((try simp only [wS]); omega) | rfl) | refine a1m ?_ ))))); any_goals (apply a0e; rfl))
  | omega))
 all_goals first | (exfalso; omega) | fail
theorem c5e (n : Int) : Runs Tryz.prog 109 [.val (.int .i64 n)] [] (Det (.val (.int .i64 (n / 2))) []) := by
 refine Runs.mk a0k Tryz.call109 Tryz.func109 rfl Tryz.ntmps109 Tryz.results109 rfl ?_
 (repeat' (first
  | refine SP ?_
  | refine OB ?_
  | (apply a0v []; (focus (iterate 2 (all_goals (repeat' (first | exact trivial | refine And.intro ?_ ?_ | refine a0f ?_ ))))); any_goals (apply a0e; rfl))
  ))
 all_goals (rw [show (2 : Int) ^ min (Int.toNat 1) IntKind.i64.bits = 2 from rfl, Int.fdiv_eq_ediv_of_nonneg _ (by decide)])
set_option maxHeartbeats 2000000 in
theorem b4l (x : Rx) (m : Mg) (h : MgOK m) (hk : m.k = 9) (hx : x.pe = true) (hq : x.sq = m.seq) (hco : x.co = true) (hc : 0 <= m.corr /\ m.corr <= 288230376151711744) (b1 : -13510798882111488 <= x.ah /\ x.ah <= 13510798882111488) (b3 : bd x.t3)
  (a : Int) (ha : -4503599627370496 <= a /\ a <= 4503599627370496) (hs : m.sec = a4k (3900000000000000000 + a)) (hn : m.nano = a4o (3900000000000000000 + a)) :
  Runs Tryz.prog 62 [.ptr 0 31 0 0, mgA m, .val (.int .u64 m.rc), .val (.int .i64 m.rp)] [.var (rxL x)]
   (Det z64 [.var (rxL { x with pe := false, kn := true, de := if (x.ah + a - x.t3 - m.corr / 65536) / 2 > 0 then (x.ah + a - x.t3 - m.corr / 65536) / 2 else 0 })]) := by
 have r := b5s x m h
 have i := a90 a ha
 have nn := b4d m.corr hc.1 hc.2
 rw [<- hs, <- hn] at i
 rw [hk] at r
 obtain ⟨b31, b32⟩ := b3
 have w1 : IntKind.i64.wrap (IntKind.i64.wrap (IntKind.i64.wrap (x.ah + a) - x.t3) - m.corr / 65536) = x.ah + a - x.t3 - m.corr / 65536 := by rw [IntKind.wrap_i64, IntKind.wrap_i64, IntKind.wrap_i64]; omega
 have hh := c5e (IntKind.i64.wrap (IntKind.i64.wrap (IntKind.i64.wrap (x.ah + a) - x.t3) - m.corr / 65536))
 have w2 : IntKind.i64.wrap (IntKind.i64.wrap (IntKind.i64.wrap (x.ah + a) - x.t3) - m.corr / 65536) / 2 = (x.ah + a - x.t3 - m.corr / 65536) / 2 := by rw [w1]
 rw [w2] at hh
 clear w1 w2
 obtain ⟨co, ah, pe, sq, t3, kn, de⟩ := x
 simp only at *
 subst hx hq hco
 generalize m.corr / 65536 = q at *
 generalize (ah + a - t3 - q) / 2 = d at *
 have hkk : mgA m = .agg [.val (.int .i64 9), z64, z64, .val (.int .i64 m.corr), .val (.int .u64 m.clock), .val (.int .i64 1), .val (.int .i64 m.seq), z64, .val (.int .i64 m.sec), .val (.int .i64 m.nano), .val (.int .u64 m.rc), .val (.int .i64 m.rp), z64, z64, z64, z64, z64, z64, .val (.int .u64 0), z64, z64] := by rw [mgA, mgL, hk]
 rw [hkk] at r ⊢
 refine Runs.mk a0k Tryz.call62 Tryz.func62 rfl Tryz.ntmps62 Tryz.results62 rfl ?_
 (repeat' (first
  | refine SP ?_
  | refine a1d (by decide) ?_
  | (with_reducible refine a01 ?_)
  | (apply a0a <;> intro hb <;> (try simp only [nS, nT, eq_self, reduceCtorEq] at hb))
  | refine a0q (by decide +kernel) ?_
  | refine a0c ?_
  | refine CT [some 0] r ?_
  | ((first | apply a0t (i) ); exact AS)
  | ((first | apply a1l (nn)); exact AS)
  | ((first | apply a1l (hh)); exact AS)
  | exact RT [some 0]
  ))
theorem b9q (x : Rx) (hk : x.kn = true) (b1 : -13510798882111488 <= x.ah /\ x.ah <= 13510798882111488) (b5 : 0 <= x.de /\ x.de <= 27021597764222976) :
  Runs Tryz.prog 63 [.ptr 0 31 0 0] [.var (rxL x)] (Det (.tup [.val (.int .i64 (x.ah - x.de)), .sb true]) [.var (rxL x)]) := by
 have w1 : IntKind.i64.wrap (x.ah - x.de) = x.ah - x.de := by rw [IntKind.wrap_i64]; omega
 obtain ⟨co, ah, pe, sq, t3, kn, de⟩ := x
 simp only at *
 subst hk
 refine Runs.mk a0k Tryz.call63 Tryz.func63 rfl Tryz.ntmps63 Tryz.results63 rfl ?_
 (repeat' (first
  | refine SP ?_
  | refine a1d (by decide) ?_
  | (apply a0a <;> intro hb <;> (try simp only [nS, nT, eq_self, reduceCtorEq] at hb))
  | refine a0q (by decide +kernel) ?_
  | refine a0c ?_
  | exact RT [some 0]
  ))
 all_goals first | exact w1 | fail
theorem b7e (x : Rx) (hk : x.kn = true) : Runs Tryz.prog 64 [.ptr 0 31 0 0] [.var (rxL x)] (Det (.tup [.val (.int .i64 x.de), .sb true]) [.var (rxL x)]) := by
 obtain ⟨co, ah, pe, sq, t3, kn, de⟩ := x
 simp only at *
 subst hk
 refine Runs.mk a0k Tryz.call64 Tryz.func64 rfl Tryz.ntmps64 Tryz.results64 rfl ?_
 (repeat' (first
  | refine SP ?_
  | refine a1d (by decide) ?_
  | (apply a0a <;> intro hb <;> (try simp only [nS, nT, eq_self, reduceCtorEq] at hb))
  | refine a0c ?_
  | exact RT [some 0]
  ))
end Go.Vx.L58.PT
set_option maxRecDepth 100000
namespace Go.Vx.L58
open Go Go.Proofs Go.Vx.L58.PT
theorem c4i (os : List Osc) (hd : Nat -> Value) (i : Nat) (hi : i < os.length) (hc : ckO (os.getD i os0) = 0) (t : Int) (ht : 0 <= t /\ t <= 1125899906842624) :
  Runs Tryz.prog 103 [oA os hd i, .val (.int .i64 t)] [osR os hd] (Det (.tup [.val (.int .i64 (rdF (os.getD i os0) t)), .val (.int .i64 0)]) [osR os hd]) := by
 have hck := a8h os hd i hi
 rw [hc] at hck
 have hr := c2p os hd i hi hc t ht
 generalize rdF (os.getD i os0) t = r at *
 refine Runs.mk a0k Tryz.call103 Tryz.func103 rfl Tryz.ntmps103 Tryz.results103 rfl ?_
 (repeat' (first
  | refine SP ?_
  | (apply a0a <;> intro hb <;> (try simp only [nS, nT, eq_self, reduceCtorEq] at hb) <;> (try (exfalso; omega)))
  | refine a0c ?_
  | refine CT [some 0] hck ?_
  | refine CT [some 0] hr ?_
  | exact RT [some 0]
  ))
set_option maxHeartbeats 4000000 in
theorem c01 (os : List Osc) (hd : Nat -> Value) (i : Nat) (hi : i < os.length) (hc : ckO (os.getD i os0) = 0) (t : Int) (ht : 0 <= t) :
  Runs Tryz.prog 140 [oA os hd i, .val (.int .i64 t)] [osR os hd] (Det (.val (.int .i64 (rtF (os.getD i os0) t))) [osR os hd]) := by
 have hck := a8h os hd i hi
 rw [hc] at hck
 obtain ⟨h1, h2⟩ := a5v hc
 have hl1 := h1.l1
 have hl16 := h1.l2
 have hf : (sgR os i).1 = (os.getD i os0).sg.length := rfl
 have hs : ∀ k, rtP (os.getD i os0).sg t (k + 1) = if ((os.getD i os0).sg.getD k sg0).a <= t then ((os.getD i os0).sg.getD k sg0).p else rtP (os.getD i os0).sg t k := fun _ => rfl
 have h01 : rtP (os.getD i os0).sg t 1 = ((os.getD i os0).sg.getD 0 sg0).p := by rw [hs]; split <;> rfl
 unfold rtF
 generalize rtP (os.getD i os0).sg t = R at *
 refine Runs.mk a0k Tryz.call140 Tryz.func140 rfl Tryz.ntmps140 Tryz.results140 rfl ?_
 (repeat' (first
  | refine SP ?_
  | (apply a0a <;> intro hb <;> (try simp only [nS, nT, eq_self, reduceCtorEq] at hb) <;> (try (exfalso; fail; done)))
  | refine a0c ?_
  | refine OB ?_
  | refine CT [some 0] hck ?_
  ))
 refine a0p (σ := Nat) (fun x => 1 <= x /\ x <= (os.getD i os0).sg.length) (fun x => ⟨[(1, .val (.int .i64 t)), (2, .ptr 1 2 0 0), (5, .val (.int .i64 (R x))), (6, .val (.int .i64 x))], [osR os hd, .var [.val (.int .i64 (os.getD i os0).ph), .rsl 0 i 2 (os.getD i os0).sg.length (hd i)]]⟩) (fun x => (os.getD i os0).sg.length - x) (1) ?_ ?_ ?_
 ·omega
 ·rw [h01]
  exact LT [some 0, some 1]
 rintro k ⟨hk0, hk⟩
 have hs := hs k
 by_cases hkl : k < (os.getD i os0).sg.length
 ·have hz : Int.toNat (k : Int) = k := Int.toNat_natCast k
  by_cases hc : ((os.getD i os0).sg.getD k sg0).a <= t
  ·rw [if_pos hc] at hs
   rw [<- hz] at hc
   (repeat' (first
  | refine SP ?_
  | (apply a0a <;> intro hb <;> (try simp only [nS, nT, eq_self, reduceCtorEq] at hb) <;> (try (exfalso; omega)))
  | refine a0c ?_
  | refine OB ?_
  | (apply a0i (Subtype.mk (k + 1) (by first | omega | (simp only; omega))); (focus (rw [hs]; exact LT [some 0, some 1])); (all_goals (try (first | (simp only; omega)))))
  ))
  ·rw [if_neg hc] at hs
   rw [<- hz] at hc
   (repeat' (first
  | refine SP ?_
  | (apply a0a <;> intro hb <;> (try simp only [nS, nT, eq_self, reduceCtorEq] at hb) <;> (try (exfalso; omega)))
  | refine a0c ?_
  | refine OB ?_
  | (apply a0i (Subtype.mk (k + 1) (by first | omega | (simp only; omega))); (focus (rw [hs]; exact LT [some 0, some 1])); (all_goals (try (first | (simp only; omega)))))
  ))
 ·obtain rfl : k = (os.getD i os0).sg.length := by omega
  (repeat' (first
  | refine SP ?_
  | (apply a0a <;> intro hb <;> (try simp only [nS, nT, eq_self, reduceCtorEq] at hb) <;> (try (exfalso; omega)))
  | refine a0c ?_
  | exact RT [some 0]
  ))
theorem a4g (s : Scn) (x : Nat) (hx : x < s.os.length) (hc : ckO (s.os.getD x os0) = 0) (t : Int) (ht : 0 <= t /\ t <= 1125899906842624) :
  Runs Tryz.prog 56 [scA s, .val (.int .i64 x), .val (.int .i64 t)] (scB s) (Det (.val (.int .i64 (rdF (s.os.getD x os0) t))) (scB s)) := by
 have hz : 0 + Int.toNat (x : Int) = x := by omega
 have hr := c4i s.os s.hd (0 + Int.toNat (x : Int)) (by omega) (by rw [hz]; exact hc) t ht
 rw [show rdF (s.os.getD (0 + Int.toNat (x : Int)) os0) t = rdF (s.os.getD x os0) t by rw [hz]] at hr
 generalize rdF (s.os.getD x os0) t = r at *
 refine Runs.mk a0k Tryz.call56 Tryz.func56 rfl Tryz.ntmps56 Tryz.results56 rfl ?_
 (repeat' (first
  | refine SP ?_
  | refine OB ?_
  | refine CT [some 3] hr ?_
  | exact RT [some 0, some 1, some 2, some 3, some 4, some 5, some 6, some 7]
  ))
theorem b4e (a : Int) (h : -1691011200000000000 <= a /\ a <= 4100000000000000000) :
  Runs Tryz.prog 55 [.val (.int .i64 a)] [] (Det (.tup [.agg [.val (.int .i64 (a4k (3900000000000000000 + a))), .val (.int .i64 (a4o (3900000000000000000 + a)))], .sb true]) []) := by
 have w1 : IntKind.i64.wrap (3900000000000000000 + a) = 3900000000000000000 + a := by rw [IntKind.wrap_i64]; omega
 have ho := d2x (3900000000000000000 + a) (by omega) (by omega)
 generalize a4k (3900000000000000000 + a) = sc at *
 generalize a4o (3900000000000000000 + a) = nn at *
 rw [<- w1] at ho
 refine Runs.mk a0k Tryz.call55 Tryz.func55 rfl Tryz.ntmps55 Tryz.results55 rfl ?_
 (repeat' (first
  | refine SP ?_
  | ((first | apply a0t (ho) ); exact AS)
  | exact RT []
  ))
set_option maxHeartbeats 4000000 in
theorem b8i (s : Scn) (hs : CkOK s) (htr : s.tr.length = s.os.length) (m : Mg) (hm : MgOK m) (x : Nat) (hx : x < s.os.length) (ht : s.tr.getD x false = true) (A : Int) (hA : 0 <= A /\ A <= 620000000000000) (h2 : 0 <= m.corr) (h3 : m.corr <= 1152921504606846976) :
  Runs Tryz.prog 104 [scA s, mgA m, .val (.int .i64 x), .val (.int .i64 A)] (scB s)
   (Det (.tup [mgA (a84 m (usF (rdF (s.os.getD x os0) (A + s.st.getD x 0) - rdF (s.os.getD x os0) A) (rtF (s.os.getD x os0) A))), .sb true]) (scB s)) := by
 have ho := hs.os x hx
 have hsx := hs.st x hx
 have hsl := hs.sl
 have hz : 0 + Int.toNat (x : Int) = x := by omega
 have eB : IntKind.i64.wrap (A + s.st.getD (0 + Int.toNat (x : Int)) 0) = A + s.st.getD x 0 := by rw [hz, IntKind.wrap_i64]; omega
 have htz : s.tr.getD (0 + Int.toNat (x : Int)) false = true := by rw [hz]; exact ht
 generalize hB : A + s.st.getD x 0 = B at *
 have hra := a4g s x hx ho A (by omega)
 have hrb := a4g s x hx ho B (by omega)
 have hrt := c01 s.os s.hd (0 + Int.toNat (x : Int)) (by omega) (by rw [hz]; exact ho) A hA.1
 rw [show rtF (s.os.getD (0 + Int.toNat (x : Int)) os0) A = rtF (s.os.getD x os0) A by rw [hz]] at hrt
 have hrp : -500000 <= rtF (s.os.getD x os0) A /\ rtF (s.os.getD x os0) A <= 500000 := b4n (a5v ho).1 A _ (Nat.le_refl _)
 have hmo := a9o ho (t := A) (t' := B) (by omega) (by omega) (by omega)
 have hmo2 := hmo.2 (by omega)
 have hr1 := b1y ho (t := A) (by omega)
 have hr2 := b1y ho (t := B) (by omega)
 generalize rtF (s.os.getD x os0) A = R at *
 generalize rdF (s.os.getD x os0) A = a at *
 generalize rdF (s.os.getD x os0) B = b at *
 have hst := c5h a b R (by omega) (by omega) hmo.1 (by omega) hrp
 have hu := c3d (n := b - a) (p := R) (by omega) (by omega) hrp
 generalize hU : usF (b - a) R = u at *
 have had := c5c m hm u (by omega) (by omega) h2 h3
 rw [<- eB] at hrb
 refine Runs.mk a0k Tryz.call104 Tryz.func104 rfl Tryz.ntmps104 Tryz.results104 rfl ?_
 (repeat' (first
  | refine SP ?_
  | (apply a0a <;> intro hb <;> (try simp only [nS, nT, eq_self, reduceCtorEq] at hb) <;> (try (exfalso; (first | (rw [htz] at hb; cases hb)); done)))
  | refine a0q (by decide +kernel) ?_
  | refine a0c ?_
  | refine OB ?_
  | ((first | apply a0m [some 0, some 1, some 2, some 3, some 4, some 5, some 6, some 7] (hra)); exact AS; (any_goals (first | (apply a0s; rfl) )))
  | ((first | apply a0m [some 0, some 1, some 2, some 3, some 4, some 5, some 6, some 7] (hrb)); exact AS; (any_goals (first | (apply a0s; rfl) )))
  | ((first | apply a0m [some 3] (hrt)); exact AS; (any_goals (first | (apply a0s; rfl) )))
  | ((first | apply a1l (hst)); exact AS)
  | ((first | apply a0t (had) ); exact AS)
  | exact RT [some 0, some 1, some 2, some 3, some 4, some 5, some 6, some 7]
  ))
end Go.Vx.L58

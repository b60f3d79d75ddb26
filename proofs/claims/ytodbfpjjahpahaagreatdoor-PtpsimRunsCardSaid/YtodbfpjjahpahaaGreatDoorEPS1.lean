/- Lemmas of a small executor for the model, and contracts of functions, used for the law that this claim proves. No condition. -/
import Derived.Test.YtodbfpjjahpahaaGreatDoorEW3
import Derived.Test.YtodbfpjjahpahaaGreatDoorEPTA
set_option linter.unusedSimpArgs false
set_option linter.unusedVariables false
set_option maxRecDepth 100000
namespace Go.Vx.L58
open Go Go.Proofs Go.Vx.L58.PT
abbrev usF (n p : Int) : Int := n * 1000000000 / (1000000000 + p)
theorem c3d {n p : Int} (h0 : 0 <= n) (h1 : n <= 2251799813685248) (hp : -500000 <= p /\ p <= 500000) : 0 <= usF n p /\ usF n p <= 2 * n := by
 refine ⟨Int.ediv_nonneg (by omega) (by omega), ?_⟩
 have h : usF n p < 2 * n + 1 := by
  refine Int.ediv_lt_of_lt_mul (by omega) ?_
  have : (2 * n + 1) * 999500000 <= (2 * n + 1) * (1000000000 + p) := Int.mul_le_mul_of_nonneg_left (by omega) (by omega)
  omega
 omega
theorem b9p (n p : Int) (h0 : 0 <= n) (h1 : n <= 2251799813685248) (hp : -500000 <= p /\ p <= 500000) :
  Runs Tryz.prog 226 [.val (.int .i64 n), .val (.int .i64 p)] [] (Det (.tup [.val (.int .i64 (usF n p)), .sb true]) []) := by
 have m := MD.muldiv_pos n 1000000000 (1000000000 + p) h0 (by omega) (by omega) (by omega) (by omega) (by omega)
 have w : IntKind.i64.wrap (1000000000 + p) = 1000000000 + p := by rw [IntKind.wrap_i64]; omega
 unfold usF
 rw [<- w] at m ⊢
 refine Runs.mk a0k Tryz.call226 Tryz.func226 rfl Tryz.ntmps226 Tryz.results226 rfl ?_
 (repeat' (first
  | refine SP ?_
  | (apply a0a <;> intro hb <;> (try simp only [nS, nT, eq_self, reduceCtorEq] at hb) <;> (try (exfalso; omega)))
  | refine a0c ?_
  | ((first | apply a0t (m) ); exact AS)
  | exact RT []
  ))
theorem d1j (a b p : Int) (ha : -4503599627370496 <= a /\ a <= 4503599627370496) (hb : -4503599627370496 <= b /\ b <= 4503599627370496) (hab : a <= b) (h1 : b - a <= 2251799813685248) (hp : -500000 <= p /\ p <= 500000) :
  Runs Tryz.prog 224 [.val (.int .i64 a), .val (.int .i64 b), .val (.int .i64 p)] [] (Det (.tup [.val (.int .i64 (usF (b - a) p)), .val (.int .i64 0)]) []) := by
 have m := b9p (b - a) p (by omega) h1 hp
 have w : IntKind.i64.wrap (b - a) = b - a := by rw [IntKind.wrap_i64]; omega
 rw [<- w] at m ⊢
 refine Runs.mk a0k Tryz.call224 Tryz.func224 rfl Tryz.ntmps224 Tryz.results224 rfl ?_
 (repeat' (first
  | refine SP ?_
  | (apply a0a <;> intro hb <;> (try simp only [nS, nT, eq_self, reduceCtorEq] at hb) <;> (try (exfalso; omega)))
  | refine a0c ?_
  | ((first | apply a0t (m) ); exact AS)
  | exact RT []
  ))
abbrev mcL (m : Mg) : List AV := [.val (.int .i64 m.k), z64, z64, .val (.int .i64 m.corr), .val (.int .u64 m.clock), .val (.int .i64 1), .val (.int .i64 m.seq), z64, .val (.int .i64 m.sec), .val (.int .i64 m.nano), .val (.int .u64 m.rc), .val (.int .i64 m.rp), z64, z64, z64, z64, z64, z64, .val (.int .u64 0), z64, z64, z64]
set_option maxHeartbeats 4000000 in
theorem c2a (m : Mg) (h : MgOK m) (a b p : Int) (ha : -4503599627370496 <= a /\ a <= 4503599627370496) (hb : -4503599627370496 <= b /\ b <= 4503599627370496) (hab : a <= b) (h1 : b - a <= 17179869184) (hp : -500000 <= p /\ p <= 500000)
  (h2 : 0 <= m.corr) (h3 : m.corr <= 1152921504606846976) :
  Runs Tryz.prog 223 [.ptr 0 22 0 0, .val (.int .i64 a), .val (.int .i64 b), .val (.int .i64 p)] [.var (mcL m)] (Det (.tup []) [.var (mcL (a84 m (usF (b - a) p)))]) := by
 have hs := d1j a b p ha hb hab (by omega) hp
 have hu := c3d (n := b - a) (p := p) (by omega) (by omega) hp
 generalize usF (b - a) p = u at *
 have had := d1h m h u (by omega) (by omega) h2 h3
 refine Runs.mk a0k Tryz.call223 Tryz.func223 rfl Tryz.ntmps223 Tryz.results223 rfl ?_
 (repeat' (first
  | refine SP ?_
  | (apply a0a <;> intro hb <;> (try simp only [nS, nT, eq_self, reduceCtorEq] at hb) <;> (try (exfalso; omega)))
  | refine a0c ?_
  | ((first | apply a0t (hs) ); exact AS)
  | ((first | apply a0t (had) ); exact AS)
  | exact RT [some 0]
  ))
end Go.Vx.L58

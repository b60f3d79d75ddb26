/- Lemmas of a small executor for the model, and contracts of functions, used for the law that this claim proves. No condition. -/
import Derived.Test.YtafojofaegmbnaaCF27
set_option linter.unusedSimpArgs false
set_option linter.unusedVariables false
set_option maxRecDepth 100000
namespace Go.Vx.L55
open Go Go.Proofs
theorem u32w (n : Int) : IntKind.u32.wrap n = n % 4294967296 := by rw [IntKind.wrap_u32]
theorem bv32 {a : Nat} (h : a < 4294967296) : (BitVec.ofInt IntKind.u32.bits (a : Int)).toNat = a := by
  rw [BitVec.toNat_ofInt]
  show (((a : Int)) % ((2:Int)^32)).toNat = a
  omega
/-- The bit of a set. -/
theorem bit_is (Z : Nat) (hZ : Z < 4294967296) (x : Int) (hx : 0 ≤ x ∧ x < 32) :
    IntKind.u32.wrap ((BitVec.ofInt IntKind.u32.bits (((Z : Nat) : Int).fdiv (2 ^ (min x.toNat IntKind.u32.bits))) &&& BitVec.ofInt IntKind.u32.bits 1).toNat : Int) = if Z.testBit x.toNat = true then 1 else 0 := by
  obtain ⟨k, rfl⟩ := Int.eq_ofNat_of_zero_le hx.1
  have hk : k < 32 := by omega
  have e1 : min (Int.toNat (k : Int)) IntKind.u32.bits = k := by
    show min (Int.toNat (k : Int)) 32 = k
    rw [Int.toNat_natCast]; omega
  rw [e1]
  have e2 : ((Z : Nat) : Int).fdiv (2 ^ k) = ((Z / 2 ^ k : Nat) : Int) := by
    have : (2 : Int) ^ k = ((2 ^ k : Nat) : Int) := by simp
    rw [this, Int.fdiv_eq_ediv_of_nonneg _ (Int.natCast_nonneg _)]; rfl
  have hle : Z / 2 ^ k ≤ Z := Nat.div_le_self ..
  rw [e2, BitVec.toNat_and, bv32 (Nat.lt_of_le_of_lt hle hZ), show (1 : Int) = ((1 : Nat) : Int) from rfl, bv32 (by decide), Nat.and_one_is_mod, u32w, Int.toNat_natCast, Nat.testBit_eq_decide_div_mod_eq]
  by_cases h : Z / 2 ^ k % 2 = 1
  · rw [h]; simp
  · have : Z / 2 ^ k % 2 = 0 := by omega
    rw [this]; simp
/-- A bit more. -/
theorem bit_or (B : Nat) (hB : B < 16777216) (x : Int) (hx : 0 ≤ x ∧ x < 24) :
    IntKind.u32.wrap ((BitVec.ofInt IntKind.u32.bits (B : Int) ||| BitVec.ofInt IntKind.u32.bits (IntKind.u32.wrap (1 * 2 ^ (min x.toNat IntKind.u32.bits)))).toNat : Int) = ((B ||| 2 ^ x.toNat : Nat) : Int) ∧ B ||| 2 ^ x.toNat < 16777216 := by
  obtain ⟨k, rfl⟩ := Int.eq_ofNat_of_zero_le hx.1
  have hk : k < 24 := by omega
  have e1 : min (Int.toNat (k : Int)) IntKind.u32.bits = k := by
    show min (Int.toNat (k : Int)) 32 = k
    rw [Int.toNat_natCast]; omega
  rw [e1, Int.toNat_natCast]
  have hp : 2 ^ k < 16777216 := by
    have : 2 ^ k < 2 ^ 24 := Nat.pow_lt_pow_right (by decide) hk
    simpa using this
  have e2 : IntKind.u32.wrap (1 * 2 ^ k) = ((2 ^ k : Nat) : Int) := by
    have : (2 : Int) ^ k = ((2 ^ k : Nat) : Int) := by simp
    rw [u32w, this]
    generalize 2 ^ k = p at hp
    omega
  have hlt : B ||| 2 ^ k < 16777216 := by
    have := Nat.or_lt_two_pow (x := B) (y := 2 ^ k) (n := 24) (by simpa using hB) (by simpa using hp)
    simpa using this
  refine ⟨?_, hlt⟩
  rw [e2, BitVec.toNat_or, bv32 (by omega), bv32 (by omega), u32w]
  omega
theorem not_in (B S : Nat) (hB : B < 16777216) (hS : S < 4294967296) :
    IntKind.u32.wrap ((BitVec.ofInt IntKind.u32.bits (B : Int) &&& ~~~ BitVec.ofInt IntKind.u32.bits (S : Int)).toNat : Int) = 0 ↔ ∀ k, B.testBit k = true → S.testBit k = true := by
  rw [u32w]
  have hlt : (BitVec.ofInt IntKind.u32.bits (B : Int) &&& ~~~ BitVec.ofInt IntKind.u32.bits (S : Int)).toNat < 4294967296 := BitVec.isLt _
  have e0 : (((BitVec.ofInt IntKind.u32.bits (B : Int) &&& ~~~ BitVec.ofInt IntKind.u32.bits (S : Int)).toNat : Nat) : Int) % 4294967296 = 0 ↔ (BitVec.ofInt IntKind.u32.bits (B : Int) &&& ~~~ BitVec.ofInt IntKind.u32.bits (S : Int)).toNat = 0 := by omega
  rw [e0]
  have tb : ∀ k, (BitVec.ofInt IntKind.u32.bits (B : Int) &&& ~~~ BitVec.ofInt IntKind.u32.bits (S : Int)).toNat.testBit k = (B.testBit k && !S.testBit k) := by
    intro k
    rw [BitVec.toNat_and, Nat.testBit_and, bv32 (by omega), BitVec.toNat_not, bv32 hS]
    show (B.testBit k && (2 ^ 32 - 1 - S).testBit k) = _
    by_cases hk : k < 32
    · rw [Nat.sub_sub, Nat.add_comm 1 S, Nat.testBit_two_pow_sub_succ (by simpa using hS)]
      simp [hk]
    · have : B.testBit k = false := Nat.testBit_lt_two_pow (Nat.lt_of_lt_of_le (by simpa using hB : B < 2 ^ 24) (Nat.pow_le_pow_right (by decide) (by omega)))
      rw [this]; rfl
  constructor
  · intro h k hk
    have := tb k
    rw [h, hk] at this
    simpa using this
  · intro h
    refine Nat.eq_of_testBit_eq fun k => ?_
    rw [tb, Nat.zero_testBit]
    cases hb : B.testBit k with
    | false => rfl
    | true => rw [h k hb]; rfl
end Go.Vx.L55

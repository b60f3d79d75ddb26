/- Lemmas of a small executor for the model, and contracts of functions, used for the law that this claim proves. No condition. -/
import Derived.Test.YtafojofaegmbnaaCF20
import Derived.Test.YtafojofaegmbnaaRows
set_option linter.unusedSimpArgs false
set_option linter.unusedVariables false
set_option maxRecDepth 100000
namespace Go.Vx.L55
open Go Go.Proofs Go.Proofs.Ytafojofaegmbnaa
open Go.ChangeShapes Go.WideShapes Go.RowKit Go.Deep
theorem own : ownKnob Try.prog.godebug = none := by kernel_rfl
theorem laid : laidOutB Try.prog = true := by kernel_rfl
theorem wfk {k : IntKind} {n : Int} {a b : Int} (h : (Lit.int k n).wf = true) (ha : k.min = a) (hb : k.max = b) : a ≤ n ∧ n ≤ b := by
  simp only [Lit.wf, ha, hb, Bool.and_eq_true, decide_eq_true_eq] at h
  exact h
theorem R64w {n : Int} (h : (Lit.int .i64 n).wf = true) : R64 n := wfk h (by decide) (by decide)
section
variable {H : Type} {enc : TypeId × Value → H} {P : Program} {w : World} {base : Nat} {spare : Nat → Bool} {held : Bool}
theorem trodAll_five {t0 t1 t2 t3 t4 : TypeId} {args : Array Value} {ds : List (DataW H)} {ps : List MemPlace} (h : DataW.TrodAll enc P w base spare held [t0, t1, t2, t3, t4] args.toList ds ps) :
    ∃ v0 v1 v2 v3 v4 d0 d1 d2 d3 d4 p0 p1 p2 p3 p4, args = #[v0, v1, v2, v3, v4] ∧ ds = [d0, d1, d2, d3, d4] ∧ ps = p0 ++ p1 ++ p2 ++ p3 ++ p4 ∧ DataW.Trod enc P w base spare held t0 v0 d0 p0 ∧ DataW.Trod enc P w base spare held t1 v1 d1 p1 ∧ DataW.Trod enc P w base spare held t2 v2 d2 p2 ∧ DataW.Trod enc P w base spare held t3 v3 d3 p3 ∧ DataW.Trod enc P w base spare held t4 v4 d4 p4 := by
  obtain ⟨v0, vs0, d0, ds0, p0, q0, hargs, rfl, rfl, g0, h0⟩ := trodAll_cons h
  obtain ⟨v1, vs1, d1, ds1, p1, q1, rfl, rfl, rfl, g1, h1⟩ := trodAll_cons h0
  obtain ⟨v2, vs2, d2, ds2, p2, q2, rfl, rfl, rfl, g2, h2⟩ := trodAll_cons h1
  obtain ⟨v3, vs3, d3, ds3, p3, q3, rfl, rfl, rfl, g3, h3⟩ := trodAll_cons h2
  obtain ⟨v4, vs4, d4, ds4, p4, q4, rfl, rfl, rfl, g4, h4⟩ := trodAll_cons h3
  obtain ⟨rfl, rfl, rfl⟩ := trodAll_nil h4
  exact ⟨v0, v1, v2, v3, v4, d0, d1, d2, d3, d4, p0, p1, p2, p3, p4, by cases args; simp_all, rfl, by simp, g0, g1, g2, g3, g4⟩
theorem trodAll_six {t0 t1 t2 t3 t4 t5 : TypeId} {args : Array Value} {ds : List (DataW H)} {ps : List MemPlace} (h : DataW.TrodAll enc P w base spare held [t0, t1, t2, t3, t4, t5] args.toList ds ps) :
    ∃ v0 v1 v2 v3 v4 v5 d0 d1 d2 d3 d4 d5 p0 p1 p2 p3 p4 p5, args = #[v0, v1, v2, v3, v4, v5] ∧ ds = [d0, d1, d2, d3, d4, d5] ∧ ps = p0 ++ p1 ++ p2 ++ p3 ++ p4 ++ p5 ∧ DataW.Trod enc P w base spare held t0 v0 d0 p0 ∧ DataW.Trod enc P w base spare held t1 v1 d1 p1 ∧ DataW.Trod enc P w base spare held t2 v2 d2 p2 ∧ DataW.Trod enc P w base spare held t3 v3 d3 p3 ∧ DataW.Trod enc P w base spare held t4 v4 d4 p4 ∧ DataW.Trod enc P w base spare held t5 v5 d5 p5 := by
  obtain ⟨v0, vs0, d0, ds0, p0, q0, hargs, rfl, rfl, g0, h0⟩ := trodAll_cons h
  obtain ⟨v1, vs1, d1, ds1, p1, q1, rfl, rfl, rfl, g1, h1⟩ := trodAll_cons h0
  obtain ⟨v2, vs2, d2, ds2, p2, q2, rfl, rfl, rfl, g2, h2⟩ := trodAll_cons h1
  obtain ⟨v3, vs3, d3, ds3, p3, q3, rfl, rfl, rfl, g3, h3⟩ := trodAll_cons h2
  obtain ⟨v4, vs4, d4, ds4, p4, q4, rfl, rfl, rfl, g4, h4⟩ := trodAll_cons h3
  obtain ⟨v5, vs5, d5, ds5, p5, q5, rfl, rfl, rfl, g5, h5⟩ := trodAll_cons h4
  obtain ⟨rfl, rfl, rfl⟩ := trodAll_nil h5
  exact ⟨v0, v1, v2, v3, v4, v5, d0, d1, d2, d3, d4, d5, p0, p1, p2, p3, p4, p5, by cases args; simp_all, rfl, by simp, g0, g1, g2, g3, g4, g5⟩
end
section
variable {H : Type} {enc : TypeId × Value → H} {W : World} {base : Nat} {v : Value} {d : DataW H} {p : List MemPlace}
theorem opa_fts (hval : Value.okWide Try.prog W .any base 22 v) (hd : DataW.Trod enc Try.prog W 0 (fun _ => true) true 22 v d p) :
    ∃ (l : List Ft) (cap : Option Nat) (_ : l.length ≤ maxLen) (o : Option Loc), OpA W [v] [o] (fun b => [.sl b 5 0 l.length cap]) [fB l] := by
  obtain ⟨a, len, cap, rfl⟩ := okWide_slice Try.underlying22 hval
  obtain ⟨fuel, hf⟩ := hd
  obtain ⟨l, cap', o, hl, hm, h⟩ := opn_list (cells := ftC) (d := ft0) (ks := [.int .i64, .int .i64, .int .i64, .int .i64, .int .i64]) (n0 := 3) Try.underlying22 (by kernel_rfl) (by kernel_rfl) (by decide)
    (fun F => ⟨intOf (F 0), intOf (F 1), intOf (F 2), intOf (F 3), intOf (F 4)⟩) (fun F hF ι j hj => by
      obtain ⟨z0, e0, _⟩ := hF 0 _ rfl
      obtain ⟨z1, e1, _⟩ := hF 1 _ rfl
      obtain ⟨z2, e2, _⟩ := hF 2 _ rfl
      obtain ⟨z3, e3, _⟩ := hF 3 _ rfl
      obtain ⟨z4, e4, _⟩ := hF 4 _ rfl
      rcases j with _ | _ | _ | _ | _ | j
      all_goals first | (simp only [ftC, nth, e0, e1, e2, e3, e4, intOf, rel]; done) | (simp at hj; omega)) hf
  exact ⟨l, cap', hl, o, h.1⟩
theorem opa_iv (hval : Value.okWide Try.prog W .any base 35 v) (hd : DataW.Trod enc Try.prog W 0 (fun _ => true) true 35 v d p) : ∃ (lo hi : Int) (_ : R64 lo ∧ R64 hi), OpA W [v] [] (fun _ => [ivA lo hi]) [] := by
  obtain ⟨cs, rfl, _⟩ := okWide_struct Try.underlying35 hval
  obtain ⟨fuel, hf⟩ := hd
  have hk := flat_trod 3 35 [.int .i64, .int .i64] _ _ _ (by kernel_rfl) hf
  have hk0 := hk
  simp only [Value.cells] at hk hk0
  obtain ⟨u0, r0, e0, ⟨z0, rfl, w0⟩, hk1⟩ := hk.cons
  obtain ⟨u1, r1, rfl, ⟨z1, rfl, w1⟩, hk2⟩ := hk1.cons
  obtain rfl := hk2.nil
  exact ⟨z0, z1, ⟨R64w w0, R64w w1⟩, opa_flat hk0 fun ι => by rw [e0]; exact ⟨_, _, rfl, rfl, ⟨_, _, rfl, rfl, rfl⟩⟩⟩
theorem opa_nt (hval : Value.okWide Try.prog W .any base 33 v) (hd : DataW.Trod enc Try.prog W 0 (fun _ => true) true 33 v d p) : ∃ (n : Nt), OpA W [v] [] (fun _ => [ntA n]) [] := by
  obtain ⟨cs, rfl, _⟩ := okWide_struct Try.underlying33 hval
  obtain ⟨fuel, hf⟩ := hd
  have hk := flat_trod 3 33 [.int .i64, .int .i64, .int .i64, .int .i64, .int .i64, .int .i64, .int .u32, .int .u32, .int .u32, .int .u64, .int .u64, .int .u64, .int .u64] _ _ _ (by kernel_rfl) hf
  have hk0 := hk
  simp only [Value.cells] at hk hk0
  obtain ⟨u0, r0, e0, ⟨z0, rfl, w0⟩, hk1⟩ := hk.cons
  obtain ⟨u1, r1, rfl, ⟨z1, rfl, w1⟩, hk2⟩ := hk1.cons
  obtain ⟨u2, r2, rfl, ⟨z2, rfl, w2⟩, hk3⟩ := hk2.cons
  obtain ⟨u3, r3, rfl, ⟨z3, rfl, w3⟩, hk4⟩ := hk3.cons
  obtain ⟨u4, r4, rfl, ⟨z4, rfl, w4⟩, hk5⟩ := hk4.cons
  obtain ⟨u5, r5, rfl, ⟨z5, rfl, w5⟩, hk6⟩ := hk5.cons
  obtain ⟨u6, r6, rfl, ⟨z6, rfl, w6⟩, hk7⟩ := hk6.cons
  obtain ⟨u7, r7, rfl, ⟨z7, rfl, w7⟩, hk8⟩ := hk7.cons
  obtain ⟨u8, r8, rfl, ⟨z8, rfl, w8⟩, hk9⟩ := hk8.cons
  obtain ⟨u9, r9, rfl, ⟨z9, rfl, w9⟩, hk10⟩ := hk9.cons
  obtain ⟨u10, r10, rfl, ⟨z10, rfl, w10⟩, hk11⟩ := hk10.cons
  obtain ⟨u11, r11, rfl, ⟨z11, rfl, w11⟩, hk12⟩ := hk11.cons
  obtain ⟨u12, r12, rfl, ⟨z12, rfl, w12⟩, hk13⟩ := hk12.cons
  obtain rfl := hk13.nil
  refine ⟨⟨z0, z1, z2, z3, z4, z5, z6, z7, z8, z9, z10, z11, z12⟩, opa_flat hk0 fun ι => ?_⟩
  rw [e0]
  refine ⟨_, _, rfl, rfl, ?_⟩
  repeat' (first | exact ⟨_, _, rfl, rfl, rfl⟩ | refine ⟨_, _, rfl, rfl, ?_⟩)
end
end Go.Vx.L55

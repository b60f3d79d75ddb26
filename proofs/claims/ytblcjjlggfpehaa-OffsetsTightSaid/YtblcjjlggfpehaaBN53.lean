/- Lemmas of a small executor for the model, and contracts of functions, used for the law that this claim proves. No condition. -/
import Derived.Test.YtblcjjlggfpehaaBC27
import Derived.Test.YtblcjjlggfpehaaRows
set_option linter.unusedSimpArgs false
set_option linter.unusedVariables false
set_option maxRecDepth 100000
namespace Go.Vx.L53
open Go Go.Proofs Go.Proofs.Ytblcjjlggfpehaa
open Go.ChangeShapes Go.WideShapes Go.RowKit Go.Deep
theorem own : ownKnob Try.prog.godebug = none := by kernel_rfl
theorem laid : laidOutB Try.prog = true := by kernel_rfl
theorem wfk {k : IntKind} {n : Int} {a b : Int} (h : (Lit.int k n).wf = true) (ha : k.min = a) (hb : k.max = b) : a ≤ n ∧ n ≤ b := by
  simp only [Lit.wf, ha, hb, Bool.and_eq_true, decide_eq_true_eq] at h
  exact h
section
variable {H : Type} {enc : TypeId × Value → H} {W : World} {base : Nat} {v : Value} {d : DataW H} {p : List MemPlace}
/-- A struct, field by field. -/
theorem struct_each {P : Program} {w : World} {sp : Nat → Bool} {held : Bool} {t : TypeId} {fs : Array Field} {cs : List Value} {fuel : Nat} {x : DataW H × List MemPlace}
    (hu : P.underlying t = some (.struct fs)) (h : DataW.trod enc P w base sp held fuel t cs = some x) :
    cs.length = P.cellsOf t ∧ ∀ (i : Nat) (g : Field), fs[i]? = some g → ∃ n y, DataW.trod enc P w base sp held n g.type ((cs.drop g.offset).take (P.cellsOf g.type)) = some y := by
  obtain ⟨ys, mm, _, _, hy, hyl, hfl⟩ := DataW.trod_struct hu h
  refine ⟨by omega, fun i g hg => ?_⟩
  have := hfl i g hg
  have hi : i < fs.size := (Array.getElem?_eq_some_iff.1 hg).1
  rw [List.getElem?_eq_getElem (by omega)] at this
  exact ⟨_, _, this⟩
theorem opa_log (hval : Value.okWide Try.prog W .any base 22 v) (hd : DataW.Trod enc Try.prog W 0 (fun _ => true) true 22 v d p) :
    ∃ (l : List En) (cap : Option Nat) (_ : l.length ≤ maxLen) (o : Option Loc), OpA W [v] [o] (fun b => [.sl b 6 0 l.length cap]) [gL l] := by
  obtain ⟨a, len, cap, rfl⟩ := okWide_slice Try.underlying22 hval
  obtain ⟨fuel, hf⟩ := hd
  obtain ⟨l, cap', o, hl, hm, h⟩ := opn_list (cells := enC) (d := en0) (ks := [.int .i64, .int .i64, .int .i64, .int .i64, .int .i64, .int .i64]) (n0 := 3) Try.underlying22 (by kernel_rfl) (by kernel_rfl) (by decide)
    (fun F => ⟨intOf (F 0), intOf (F 1), intOf (F 2), intOf (F 3), intOf (F 4), intOf (F 5)⟩) (fun F hF ι j hj => by
      obtain ⟨z0, e0, _⟩ := hF 0 _ rfl
      obtain ⟨z1, e1, _⟩ := hF 1 _ rfl
      obtain ⟨z2, e2, _⟩ := hF 2 _ rfl
      obtain ⟨z3, e3, _⟩ := hF 3 _ rfl
      obtain ⟨z4, e4, _⟩ := hF 4 _ rfl
      obtain ⟨z5, e5, _⟩ := hF 5 _ rfl
      rcases j with _ | _ | _ | _ | _ | _ | j
      all_goals first | (simp only [enC, nth, e0, e1, e2, e3, e4, e5, intOf, rel]; done) | (simp at hj; omega)) hf
  exact ⟨l, cap', hl, o, h.1⟩
theorem opa_times (hval : Value.okWide Try.prog W .any base 23 v) (hd : DataW.Trod enc Try.prog W 0 (fun _ => true) true 23 v d p) :
    ∃ (l : List Int) (cap : Option Nat) (_ : l.length ≤ maxLen) (o : Option Loc), OpA W [v] [o] (fun b => [.sl b 1 0 l.length cap]) [.arr false 3 1 l.length (intF l)] := by
  obtain ⟨a, len, cap, rfl⟩ := okWide_slice Try.underlying23 hval
  obtain ⟨fuel, hf⟩ := hd
  obtain ⟨l, cap', o, hl, hm, h⟩ := opn_list (cells := intC) (d := 0) (ks := [.int .i64]) (n0 := 3) Try.underlying23 (by kernel_rfl) (by kernel_rfl) (by decide)
    (fun F => intOf (F 0)) (fun F hF ι j hj => by
      obtain ⟨z0, e0, _⟩ := hF 0 _ rfl
      rcases j with _ | j
      all_goals first | (simp only [intC, nth, e0, intOf, rel]; done) | (simp at hj; omega)) hf
  exact ⟨l, cap', hl, o, h.1⟩
theorem one_int {n : Nat} {y : DataW H × List MemPlace} {cs : List Value} (h : DataW.trod enc Try.prog W 0 (fun _ => true) true n 3 cs = some y) : ∃ z : Int, cs = [.int .i64 z] := by
  have hk := flat_trod 3 3 [.int .i64] _ _ _ (by kernel_rfl) h
  obtain ⟨u0, r0, e0, ⟨z0, rfl, w0⟩, hk1⟩ := hk.cons
  obtain rfl := hk1.nil
  exact ⟨z0, e0⟩
theorem opn_int {z : Int} : Opn W [.int .i64 z] [] (fun _ => [.val (.int .i64 z)]) [] := ⟨opa_int, by simp [Value.oneCell']⟩
theorem opa_conf (hval : Value.okWide Try.prog W .any base 25 v) (hd : DataW.Trod enc Try.prog W 0 (fun _ => true) true 25 v d p) :
    ∃ (c : Cf) (cap : Option Nat) (_ : c.tol.length ≤ maxLen) (o : Option Loc), OpA W [v] [o] (fun b => [aC c b cap]) [gT c] := by
  obtain ⟨cs, rfl, _⟩ := okWide_struct Try.underlying25 hval
  obtain ⟨fuel, hf⟩ := hd
  obtain ⟨hlen, each⟩ := struct_each Try.underlying25 hf
  simp only [Value.cells] at hlen each
  have hlen : cs.toList.length = 5 := hlen.trans (by kernel_rfl)
  obtain ⟨_, _, q0⟩ := each 0 _ rfl
  obtain ⟨_, _, q1⟩ := each 1 _ rfl
  obtain ⟨_, _, q2⟩ := each 2 _ rfl
  obtain ⟨_, _, q3⟩ := each 3 _ rfl
  obtain ⟨_, _, q4⟩ := each 4 _ rfl
  have c3 : Try.prog.cellsOf 3 = 1 := by kernel_rfl
  have c23 : Try.prog.cellsOf 23 = 1 := by kernel_rfl
  have q0 : DataW.trod enc Try.prog W 0 (fun _ => true) true _ 3 ((cs.toList.drop 0).take (Try.prog.cellsOf 3)) = some _ := q0
  have q1 : DataW.trod enc Try.prog W 0 (fun _ => true) true _ 3 ((cs.toList.drop 1).take (Try.prog.cellsOf 3)) = some _ := q1
  have q2 : DataW.trod enc Try.prog W 0 (fun _ => true) true _ 23 ((cs.toList.drop 2).take (Try.prog.cellsOf 23)) = some _ := q2
  have q3 : DataW.trod enc Try.prog W 0 (fun _ => true) true _ 3 ((cs.toList.drop 3).take (Try.prog.cellsOf 3)) = some _ := q3
  have q4 : DataW.trod enc Try.prog W 0 (fun _ => true) true _ 3 ((cs.toList.drop 4).take (Try.prog.cellsOf 3)) = some _ := q4
  rw [c3] at q0 q1 q3 q4
  rw [c23] at q2
  obtain ⟨z0, e0⟩ := one_int q0
  obtain ⟨z1, e1⟩ := one_int q1
  obtain ⟨z3, e3⟩ := one_int q3
  obtain ⟨z4, e4⟩ := one_int q4
  obtain ⟨l, cap', o, hl, hm, h⟩ := opn_list (cells := intC) (d := 0) (ks := [.int .i64]) (n0 := 3) Try.underlying23 (by kernel_rfl) (by kernel_rfl) (by decide)
    (fun F => intOf (F 0)) (fun F hF ι j hj => by
      obtain ⟨z0, e0, _⟩ := hF 0 _ rfl
      rcases j with _ | j
      all_goals first | (simp only [intC, nth, e0, intOf, rel]; done) | (simp at hj; omega)) q2
  have hq := (((((opn_int (W := W) (z := z0)).app (opn_int (z := z1))).app h).app (opn_int (z := z3))).app (opn_int (z := z4))).agg
  generalize hL : cs.toList = L at *
  match L, hlen with
  | [a, b, c, e, f], _ =>
    simp only [List.drop, List.take, List.cons.injEq, and_true] at e0 e1 e3 e4
    have hcs : cs = #[a, b, c, e, f] := by rw [← hL]
    subst e0 e1 e3 e4
    refine ⟨⟨z0, z1, l, z3, z4⟩, cap', hl, o, ?_⟩
    rw [hcs]
    exact hq
theorem opa_ask (hval : Value.okWide Try.prog W .any base 47 v) (hd : DataW.Trod enc Try.prog W 0 (fun _ => true) true 47 v d p) : ∃ (n : Int) (b : Bool), OpA W [v] [] (fun _ => [.agg [.val (.int .i64 n), .val (.bool b)]]) [] := by
  obtain ⟨cs, rfl, _⟩ := okWide_struct Try.underlying47 hval
  obtain ⟨fuel, hf⟩ := hd
  have hk := flat_trod 3 47 [.int .i64, .bool] _ _ _ (by kernel_rfl) hf
  have hk0 := hk
  simp only [Value.cells] at hk hk0
  obtain ⟨u0, r0, e0, ⟨z0, rfl, w0⟩, hk1⟩ := hk.cons
  obtain ⟨u1, r1, rfl, ⟨z1, rfl⟩, hk2⟩ := hk1.cons
  obtain rfl := hk2.nil
  exact ⟨z0, z1, opa_flat hk0 fun ι => by rw [e0]; exact ⟨_, _, rfl, rfl, ⟨_, _, rfl, rfl, rfl⟩⟩⟩
end
end Go.Vx.L53

/- Lemmas of a small executor for the model, and contracts of functions, used for the law that this claim proves. No condition. -/
import Derived.Test.YtgpgmoodfnamjaaBA4
import Derived.Test.YtgpgmoodfnamjaaRows
set_option linter.unusedSimpArgs false
set_option linter.unusedVariables false
set_option maxRecDepth 100000
namespace Go.Vx.L18
open Go Go.Proofs Go.Proofs.Ytgpgmoodfnamjaa
open Go.ChangeShapes Go.WideShapes Go.RowKit Go.Deep
theorem own : ownKnob Try.prog.godebug = none := by kernel_rfl
theorem laid : laidOutB Try.prog = true := by kernel_rfl
section
variable {H : Type} {enc : TypeId × Value → H} {W : World} {base : Nat} {v : Value} {d : DataW H} {p : List MemPlace}
/-- A struct: flat cells, then a slice. -/
theorem struct_tail {P : Program} {w : World} {sp : Nat → Bool} {held : Bool} {t te : TypeId} {fs : Array Field} {cs : List Value} {fuel n0 m : Nat} {x : DataW H × List MemPlace} {ks : List FK} {f : Field}
    (hu : P.underlying t = some (.struct fs)) (hks : flatFs P (flatK P n0) (fs.toList.take m) 0 = some ks) (hm : fs[m]? = some f) (hf : f.type = te) (ho : f.offset = ks.length) (hc : P.cellsOf te = 1) (hct : P.cellsOf t = ks.length + 1)
    (h : DataW.trod enc P w base sp held fuel t cs = some x) :
    OkL ks (cs.take ks.length) ∧ (∃ (n : Nat) (y : DataW H × List MemPlace), DataW.trod enc P w base sp held n te (cs.drop ks.length) = some y) ∧ cs.length = ks.length + 1 := by
  obtain ⟨ys, mm, _, _, hy, hyl, hfl⟩ := DataW.trod_struct hu h
  have hlen : cs.length = ks.length + 1 := by omega
  have each : ∀ (i : Nat) (g : Field), fs[i]? = some g → ∃ n y, DataW.trod enc P w base sp held n g.type ((cs.drop g.offset).take (P.cellsOf g.type)) = some y := fun i g hg => by
    have := hfl i g hg
    have hi : i < fs.size := (Array.getElem?_eq_some_iff.1 hg).1
    rw [List.getElem?_eq_getElem (by omega)] at this
    exact ⟨_, _, this⟩
  refine ⟨⟨by rw [List.length_take]; omega, fun j k v h1 h2 => ?_⟩, ?_, hlen⟩
  · refine flatFs_ok (enc := enc) (P := P) (w := w) (base := base) (spare := sp) (held := held) (cs := cs) (fun t ks cs fuel x => flat_trod n0 t ks cs fuel x) (fs.toList.take m) 0 ks hks (fun g hg => ?_) j k v h1 ?_
    · obtain ⟨i, hi, e⟩ := List.mem_iff_getElem.1 (List.mem_of_mem_take hg)
      have hi' : i < fs.size := by simpa using hi
      exact each i g (by rw [Array.getElem?_eq_getElem hi']; simpa using e)
    · rw [Nat.zero_add]
      have hj : j < ks.length := (List.getElem?_eq_some_iff.1 h1).1
      rwa [List.getElem?_take_of_lt hj] at h2
  · obtain ⟨n, y, q⟩ := each m f hm
    rw [hf, ho, hc, List.take_of_length_le (by rw [List.length_drop]; omega)] at q
    exact ⟨n, y, q⟩
theorem opa_graph (hval : Value.okWide Try.prog W .any base 24 v) (hd : DataW.Trod enc Try.prog W 0 (fun _ => true) true 24 v d p) :
    ∃ (n : Int) (l : List Ed) (cap : Option Nat) (_ : l.length ≤ maxLen) (o : Option Loc), OpA W [v] [o] (fun b => [.agg [.val (.int .i64 n), .sl b 4 0 l.length cap]]) [.arr false 37 4 l.length (edF l)] := by
  obtain ⟨cs, rfl, _⟩ := okWide_struct Try.underlying24 hval
  obtain ⟨fuel, hf⟩ := hd
  obtain ⟨h1, ⟨n, y, h2⟩, h3⟩ := struct_tail (n0 := 3) (m := 1) (ks := [.int .i64]) (te := 22) Try.underlying24 (by kernel_rfl) rfl rfl rfl (by kernel_rfl) (by kernel_rfl) hf
  have hk0 := h1
  obtain ⟨u0, r0, e0, ⟨z0, rfl, _⟩, hk1⟩ := h1.cons
  obtain rfl := hk1.nil
  have q1 := opn_flat (W := W) (av := [.val (.int .i64 z0)]) hk0 (fun ι => by rw [e0]; exact ⟨_, _, rfl, rfl, rfl⟩)
  obtain ⟨l, cap', o, hl, hm, q2⟩ := opn_list (cells := edC) (d := ed0) (ks := [.int .i64, .int .i64, .int .i64, .int .i64]) (n0 := 3) Try.underlying22 (by kernel_rfl) (by kernel_rfl) (by decide)
    (fun F => ⟨intOf (F 0), intOf (F 1), intOf (F 2), intOf (F 3)⟩) (fun F hF ι j hj => by
      obtain ⟨z0, e0, _⟩ := hF 0 _ rfl
      obtain ⟨z1, e1, _⟩ := hF 1 _ rfl
      obtain ⟨z2, e2, _⟩ := hF 2 _ rfl
      obtain ⟨z3, e3, _⟩ := hF 3 _ rfl
      rcases j with _ | _ | _ | _ | j
      all_goals first | (simp only [edC, nth, e0, e1, e2, e3, intOf, rel]; done) | (simp at hj; omega)) h2
  have q := (q1.app q2).agg
  rw [List.take_append_drop, Array.toArray_toList] at q
  exact ⟨z0, l, cap', hl, o, q⟩
end
end Go.Vx.L18

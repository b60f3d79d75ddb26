/- Lemmas of a small executor for the model, and contracts of functions, used for the law that this claim proves. No condition. -/
import Derived.Test.YtodbfpjjahpahaaDoorEA14
import Derived.Test.YtodbfpjjahpahaaDoorW3
import Derived.Test.YtodbfpjjahpahaaDoorRows
set_option linter.unusedSimpArgs false
set_option linter.unusedVariables false
set_option maxRecDepth 100000
namespace Go.Vx.L42
open Go Go.Proofs Go.Proofs.YtodbfpjjahpahaaDoor
open Go.ChangeShapes Go.WideShapes Go.RowKit Go.Deep
theorem own : ownKnob Tryd.prog.godebug = none := by kernel_rfl
theorem laid : laidOutB Tryd.prog = true := by kernel_rfl
abbrev LD : List (String × DataW Unit) := [("timesync/dataset.fields", Rows.laid_timesync_dataset_fields)]
theorem gF : Tryd.prog.globalNamed "timesync/dataset.fields" = some 0 := by kernel_rfl
theorem tF : (Tryd.prog.globals[0]?).map (·.type) = some 171 := by kernel_rfl
/-- The table's cells, as the walk is told of them. -/
theorem glob_of {W : World} (h : laidMetH Tryd.prog LD W) : GlobW W := by
  rw [MakeChecks.laidMetH_plain _ _ _ (by kernel_rfl)] at h
  have hT := Lib.tabIs_of_head (zs := [0, 1, 2, 3, 4, 5, 6, 7, 8, 9, 10, 7, 10, 8]) (k := .i64) gF tF Tryd.underlying171 Tryd.underlying3 (by kernel_rfl) (by kernel_rfl) h
  intro g i z hz
  rcases g with _ | g
  · have hi : i < 14 := by
      have := (List.getElem?_eq_some_iff.1 hz).1
      exact this
    have hc := hT.cell gF i hi
    have hz' : ([0, 1, 2, 3, 4, 5, 6, 7, 8, 9, 10, 7, 10, 8] : List Int).getD i 0 = z := by
      rw [List.getD_eq_getElem?_getD]
      have hz : ([0, 1, 2, 3, 4, 5, 6, 7, 8, 9, 10, 7, 10, 8] : List Int)[i]? = some z := hz
      rw [hz]; rfl
    rw [hz'] at hc
    refine ⟨hc, ?_⟩
    unfold World.cell? at hc
    cases hb : W.heap[0]? with
    | none => simp [hb] at hc
    | some o => exact (Array.getElem?_eq_some_iff.1 hb).1
  · simp [glbs] at hz
theorem wfk {k : IntKind} {n : Int} {a b : Int} (h : (Lit.int k n).wf = true) (ha : k.min = a) (hb : k.max = b) : a ≤ n ∧ n ≤ b := by
  simp only [Lit.wf, ha, hb, Bool.and_eq_true, decide_eq_true_eq] at h
  exact h
theorem wI {n : Int} (h : (Lit.int .i64 n).wf = true) : inI n := wfk h rfl rfl
theorem wU {n : Int} (h : (Lit.int .u64 n).wf = true) : inU n := wfk h rfl rfl
section
variable {H : Type} {enc : TypeId × Value → H} {W : World} {base : Nat} {v : Value} {d : DataW H} {p : List MemPlace}
theorem struct_each {P : Program} {w : World} {sp : Nat → Bool} {held : Bool} {t : TypeId} {fs : Array Field} {cs : List Value} {fuel : Nat} {x : DataW H × List MemPlace}
    (hu : P.underlying t = some (.struct fs)) (h : DataW.trod enc P w base sp held fuel t cs = some x) :
    cs.length = P.cellsOf t ∧ ∀ (i : Nat) (g : Field), fs[i]? = some g → ∃ n y, DataW.trod enc P w base sp held n g.type ((cs.drop g.offset).take (P.cellsOf g.type)) = some y := by
  obtain ⟨ys, mm, _, _, hy, hyl, hfl⟩ := DataW.trod_struct hu h
  refine ⟨by omega, fun i g hg => ?_⟩
  have := hfl i g hg
  have hi : i < fs.size := (Array.getElem?_eq_some_iff.1 hg).1
  rw [List.getElem?_eq_getElem (by omega)] at this
  exact ⟨_, _, this⟩
theorem one_int {n : Nat} {y : DataW H × List MemPlace} {cs : List Value} (h : DataW.trod enc Tryd.prog W 0 (fun _ => true) true n 3 cs = some y) : ∃ z : Int, cs = [.int .i64 z] := by
  have hk := flat_trod 3 3 [.int .i64] _ _ _ (by kernel_rfl) h
  obtain ⟨u0, r0, e0, ⟨z0, rfl, w0⟩, hk1⟩ := hk.cons
  obtain rfl := hk1.nil
  exact ⟨z0, e0⟩
theorem opn_int {z : Int} : Opn W [.int .i64 z] [] (fun _ => [.val (.int .i64 z)]) [] := ⟨opa_int, by simp [Value.oneCell']⟩
theorem opn_edges {n : Nat} {y : DataW H × List MemPlace} {cs : List Value} (h2 : DataW.trod enc Tryd.prog W 0 (fun _ => true) true n 22 cs = some y) :
    ∃ (l : List Ed) (cap : Option Nat) (o : Option Loc), l.length ≤ maxLen ∧ Opn W cs [o] (fun b => [.sl b 4 0 l.length cap]) [gB l] := by
  obtain ⟨l, cap', o, hl, hm, q2⟩ := opn_list (cells := edC) (d := ed0) (ks := [.int .i64, .int .i64, .int .i64, .int .i64]) (n0 := 3) Tryd.underlying22 (by kernel_rfl) (by kernel_rfl) (by decide)
    (fun F => ⟨intOf (F 0), intOf (F 1), intOf (F 2), intOf (F 3)⟩) (fun F hF ι j hj => by
      obtain ⟨z0, e0, _⟩ := hF 0 _ rfl
      obtain ⟨z1, e1, _⟩ := hF 1 _ rfl
      obtain ⟨z2, e2, _⟩ := hF 2 _ rfl
      obtain ⟨z3, e3, _⟩ := hF 3 _ rfl
      rcases j with _ | _ | _ | _ | j
      all_goals first | (simp only [edC, nth, e0, e1, e2, e3, intOf, rel]; done) | (simp at hj; omega)) h2
  exact ⟨l, cap', o, hl, q2⟩
theorem opn_nodes {n : Nat} {y : DataW H × List MemPlace} {cs : List Value} (h2 : DataW.trod enc Tryd.prog W 0 (fun _ => true) true n 25 cs = some y) :
    ∃ (l : List Nd) (cap : Option Nat) (o : Option Loc), l.length ≤ maxLen ∧ (∀ x, wfD (owD (l.getD x nd0))) ∧ Opn W cs [o] (fun b => [.sl b 6 0 l.length cap]) [ndB l] := by
  obtain ⟨l, cap', o, hl, hm, q2⟩ := opn_list (cells := ndC) (d := nd0) (ks := [.int .u64, .int .i64, .int .i64, .int .i64, .int .i64, .int .i64]) (n0 := 4) Tryd.underlying25 (by kernel_rfl) (by kernel_rfl) (by decide)
    (fun F => ⟨intOf (F 0), intOf (F 1), intOf (F 2), intOf (F 3), intOf (F 4), intOf (F 5)⟩) (fun F hF ι j hj => by
      obtain ⟨z0, e0, _⟩ := hF 0 _ rfl
      obtain ⟨z1, e1, _⟩ := hF 1 _ rfl
      obtain ⟨z2, e2, _⟩ := hF 2 _ rfl
      obtain ⟨z3, e3, _⟩ := hF 3 _ rfl
      obtain ⟨z4, e4, _⟩ := hF 4 _ rfl
      obtain ⟨z5, e5, _⟩ := hF 5 _ rfl
      rcases j with _ | _ | _ | _ | _ | _ | j
      all_goals first | (simp only [ndC, nth, e0, e1, e2, e3, e4, e5, intOf, rel]; done) | (simp at hj; omega)) h2
  refine ⟨l, cap', o, hl, fun x => ?_, q2⟩
  have key : ∀ a : Nd, a ∈ l ∨ a = nd0 → wfD (owD a) := by
    rintro a (ha | rfl)
    · obtain ⟨F, hF, rfl⟩ := hm a ha
      obtain ⟨z0, e0, w0⟩ := hF 0 _ rfl
      obtain ⟨z1, e1, w1⟩ := hF 1 _ rfl
      obtain ⟨z2, e2, w2⟩ := hF 2 _ rfl
      obtain ⟨z3, e3, w3⟩ := hF 3 _ rfl
      obtain ⟨z4, e4, w4⟩ := hF 4 _ rfl
      obtain ⟨z5, e5, w5⟩ := hF 5 _ rfl
      rw [e0, e1, e2, e3, e4, e5]
      have z : inI 0 := by unfold inI; omega
      exact ⟨wI w1, wI w2, wI w3, wI w4, wI w5, wU w0, z, wU w0, z, wU w0, z⟩
    · have z : inI 0 := by unfold inI; omega
      have u : inU 0 := by unfold inU; omega
      exact ⟨z, z, z, z, z, u, z, u, z, u, z⟩
  refine key _ ?_
  by_cases hx : x < l.length
  · exact .inl (getD_mem l x nd0 hx)
  · right
    rw [List.getD_eq_getElem?_getD, List.getElem?_eq_none (by omega)]; rfl
theorem opn_memos {n : Nat} {y : DataW H × List MemPlace} {cs : List Value} (h2 : DataW.trod enc Tryd.prog W 0 (fun _ => true) true n 51 cs = some y) :
    ∃ (l : List Mm) (cap : Option Nat) (o : Option Loc), l.length ≤ maxLen ∧ (∀ m ∈ l, wfD m.set) ∧ Opn W cs [o] (fun b => [.sl b 14 0 l.length cap]) [meB false l] := by
  obtain ⟨l, cap', o, hl, hm, q2⟩ := opn_list (cells := meC) (d := mm0) (ks := [.int .i64, .int .i64, .int .i64, .int .i64, .int .i64, .int .i64, .int .i64, .int .i64, .int .u64, .int .i64, .int .u64, .int .i64, .int .u64, .int .i64]) (n0 := 4) Tryd.underlying51 (by kernel_rfl) (by kernel_rfl) (by decide)
    (fun F => ⟨intOf (F 0), intOf (F 1), intOf (F 2), ⟨intOf (F 3), intOf (F 4), intOf (F 5), intOf (F 6), intOf (F 7), intOf (F 8), intOf (F 9), intOf (F 10), intOf (F 11), intOf (F 12), intOf (F 13)⟩⟩) (fun F hF ι j hj => by
      obtain ⟨z0, e0, _⟩ := hF 0 _ rfl
      obtain ⟨z1, e1, _⟩ := hF 1 _ rfl
      obtain ⟨z2, e2, _⟩ := hF 2 _ rfl
      obtain ⟨z3, e3, _⟩ := hF 3 _ rfl
      obtain ⟨z4, e4, _⟩ := hF 4 _ rfl
      obtain ⟨z5, e5, _⟩ := hF 5 _ rfl
      obtain ⟨z6, e6, _⟩ := hF 6 _ rfl
      obtain ⟨z7, e7, _⟩ := hF 7 _ rfl
      obtain ⟨z8, e8, _⟩ := hF 8 _ rfl
      obtain ⟨z9, e9, _⟩ := hF 9 _ rfl
      obtain ⟨z10, e10, _⟩ := hF 10 _ rfl
      obtain ⟨z11, e11, _⟩ := hF 11 _ rfl
      obtain ⟨z12, e12, _⟩ := hF 12 _ rfl
      obtain ⟨z13, e13, _⟩ := hF 13 _ rfl
      rcases j with _ | _ | _ | _ | _ | _ | _ | _ | _ | _ | _ | _ | _ | _ | j
      all_goals first | (simp only [meC, dC, nth, e0, e1, e2, e3, e4, e5, e6, e7, e8, e9, e10, e11, e12, e13, intOf, rel]; done) | (simp at hj; omega)) h2
  refine ⟨l, cap', o, hl, fun m hmm => ?_, q2⟩
  obtain ⟨F, hF, rfl⟩ := hm m hmm
  obtain ⟨z3, e3, w3⟩ := hF 3 _ rfl
  obtain ⟨z4, e4, w4⟩ := hF 4 _ rfl
  obtain ⟨z5, e5, w5⟩ := hF 5 _ rfl
  obtain ⟨z6, e6, w6⟩ := hF 6 _ rfl
  obtain ⟨z7, e7, w7⟩ := hF 7 _ rfl
  obtain ⟨z8, e8, w8⟩ := hF 8 _ rfl
  obtain ⟨z9, e9, w9⟩ := hF 9 _ rfl
  obtain ⟨z10, e10, w10⟩ := hF 10 _ rfl
  obtain ⟨z11, e11, w11⟩ := hF 11 _ rfl
  obtain ⟨z12, e12, w12⟩ := hF 12 _ rfl
  obtain ⟨z13, e13, w13⟩ := hF 13 _ rfl
  rw [e3, e4, e5, e6, e7, e8, e9, e10, e11, e12, e13]
  exact ⟨wI w3, wI w4, wI w5, wI w6, wI w7, wU w8, wI w9, wU w10, wI w11, wU w12, wI w13⟩
theorem opa_net (hval : Value.okWide Tryd.prog W .any base 27 v) (hd : DataW.Trod enc Tryd.prog W 0 (fun _ => true) true 27 v d p) :
    ∃ (n : Int) (l : List Ed) (cap : Option Nat) (_ : l.length ≤ maxLen) (ns : List Nd) (cap' : Option Nat) (_ : ns.length ≤ maxLen) (_ : ∀ x, wfD (owD (ns.getD x nd0))) (o o' : Option Loc), OpA W [v] [o, o'] (fun b => [.agg [.val (.int .i64 n), .sl b 4 0 l.length cap, .sl (b + 1) 6 0 ns.length cap']]) [gB l, ndB ns] := by
  obtain ⟨cs, rfl, _⟩ := okWide_struct Tryd.underlying27 hval
  obtain ⟨fuel, hf⟩ := hd
  obtain ⟨hlen, each⟩ := struct_each Tryd.underlying27 hf
  simp only [Value.cells] at hlen each
  have hlen : cs.toList.length = 3 := hlen.trans (by kernel_rfl)
  obtain ⟨_, _, q0⟩ := each 0 _ rfl
  obtain ⟨_, _, q1⟩ := each 1 _ rfl
  have c24 : Tryd.prog.cellsOf 24 = 2 := by kernel_rfl
  have c25 : Tryd.prog.cellsOf 25 = 1 := by kernel_rfl
  have c3 : Tryd.prog.cellsOf 3 = 1 := by kernel_rfl
  have c22 : Tryd.prog.cellsOf 22 = 1 := by kernel_rfl
  have q0 : DataW.trod enc Tryd.prog W 0 (fun _ => true) true _ 24 ((cs.toList.drop 0).take (Tryd.prog.cellsOf 24)) = some _ := q0
  have q1 : DataW.trod enc Tryd.prog W 0 (fun _ => true) true _ 25 ((cs.toList.drop 2).take (Tryd.prog.cellsOf 25)) = some _ := q1
  rw [c24] at q0
  rw [c25] at q1
  obtain ⟨_, each2⟩ := struct_each Tryd.underlying24 q0
  obtain ⟨_, _, r0⟩ := each2 0 _ rfl
  obtain ⟨_, _, r1⟩ := each2 1 _ rfl
  have r0 : DataW.trod enc Tryd.prog W 0 (fun _ => true) true _ 3 ((((cs.toList.drop 0).take 2).drop 0).take (Tryd.prog.cellsOf 3)) = some _ := r0
  have r1 : DataW.trod enc Tryd.prog W 0 (fun _ => true) true _ 22 ((((cs.toList.drop 0).take 2).drop 1).take (Tryd.prog.cellsOf 22)) = some _ := r1
  rw [c3] at r0
  rw [c22] at r1
  obtain ⟨z0, e0⟩ := one_int r0
  obtain ⟨l, cap, o, hl, q2⟩ := opn_edges r1
  obtain ⟨ns, cap', o', hn, hw, q3⟩ := opn_nodes q1
  have hq := (((opn_int (W := W) (z := z0)).app q2).app q3).agg
  generalize hL : cs.toList = L at *
  match L, hlen with
  | [a, b, c], _ =>
    simp only [List.drop, List.take, List.cons.injEq, and_true] at e0
    have hcs : cs = #[a, b, c] := by rw [← hL]
    subst e0
    refine ⟨z0, l, cap, hl, ns, cap', hn, hw, o, o', ?_⟩
    rw [hcs]
    exact hq
theorem opa_ballot (hval : Value.okWide Tryd.prog W .any base 53 v) (hd : DataW.Trod enc Tryd.prog W 0 (fun _ => true) true 53 v d p) :
    ∃ (rd : Int) (ms : List Mm) (cap : Option Nat) (_ : ms.length ≤ maxLen) (_ : ∀ m ∈ ms, wfD m.set) (o : Option Loc), OpA W [v] [o] (fun b => [aBl rd ms cap b]) [meB false ms] := by
  obtain ⟨cs, rfl, _⟩ := okWide_struct Tryd.underlying53 hval
  obtain ⟨fuel, hf⟩ := hd
  obtain ⟨hlen, each⟩ := struct_each Tryd.underlying53 hf
  simp only [Value.cells] at hlen each
  have hlen : cs.toList.length = 2 := hlen.trans (by kernel_rfl)
  obtain ⟨_, _, q0⟩ := each 0 _ rfl
  obtain ⟨_, _, q1⟩ := each 1 _ rfl
  have c3 : Tryd.prog.cellsOf 3 = 1 := by kernel_rfl
  have c51 : Tryd.prog.cellsOf 51 = 1 := by kernel_rfl
  have q0 : DataW.trod enc Tryd.prog W 0 (fun _ => true) true _ 3 ((cs.toList.drop 0).take (Tryd.prog.cellsOf 3)) = some _ := q0
  have q1 : DataW.trod enc Tryd.prog W 0 (fun _ => true) true _ 51 ((cs.toList.drop 1).take (Tryd.prog.cellsOf 51)) = some _ := q1
  rw [c3] at q0
  rw [c51] at q1
  obtain ⟨z0, e0⟩ := one_int q0
  obtain ⟨ms, cap, o, hl, hw, q2⟩ := opn_memos q1
  have hq := ((opn_int (W := W) (z := z0)).app q2).agg
  generalize hL : cs.toList = L at *
  match L, hlen with
  | [a, b], _ =>
    simp only [List.drop, List.take, List.cons.injEq, and_true] at e0
    have hcs : cs = #[a, b] := by rw [← hL]
    subst e0
    refine ⟨z0, ms, cap, hl, hw, o, ?_⟩
    rw [hcs]
    exact hq
end
end Go.Vx.L42

/- Lemmas of a small executor for the model, and contracts of functions, used for the law that this claim proves. No condition. -/
import Derived.Test.YtodbfpjjahpahaaDoorBXPA
import Derived.Test.YtodbfpjjahpahaaDoorBW3
import Derived.Test.YtodbfpjjahpahaaDoorRows
set_option linter.unusedSimpArgs false
set_option linter.unusedVariables false
set_option maxRecDepth 100000
namespace Go.Vx.L42.B
open Go Go.Proofs Go.Proofs.YtodbfpjjahpahaaDoor Go.Vx.L42
open Go.ChangeShapes Go.WideShapes Go.RowKit Go.Deep
theorem own : ownKnob Tryd.prog.godebug = none := by kernel_rfl
theorem laid : laidOutB Tryd.prog = true := by kernel_rfl
abbrev LD : List (String × DataW Unit) := [("timesync/port.table", Rows.laid_timesync_port_table), ("timesync/dataset.fields", Rows.laid_timesync_dataset_fields)]
theorem gF : Tryd.prog.globalNamed "timesync/dataset.fields" = some 0 := by kernel_rfl
theorem tF : (Tryd.prog.globals[0]?).map (·.type) = some 171 := by kernel_rfl
theorem gT : Tryd.prog.globalNamed "timesync/port.table" = some 1 := by kernel_rfl
theorem tT : (Tryd.prog.globals[1]?).map (·.type) = some 173 := by kernel_rfl
theorem b2k {H : Type} {enc : TypeId × Value -> H} {P : Program} {w : World} {base : Nat} {sp : Nat -> Bool} {held : Bool} {fuel : Nat} {t e f : TypeId} {n m : Nat} {k : IntKind} {cs : List Value} {zss : List (List Int)} {p : List MemPlace}
  (ht : P.underlying t = some (.array n e)) (he : P.underlying e = some (.array m f)) (hf : P.underlying f = some (.int k)) (hcf : P.cellsOf f = 1) (hce : P.cellsOf e = m)
  (h : DataW.trod enc P w base sp held fuel t cs = some (.agg (zss.map (Lib.tabData k)), p)) : ∀ i, i < n -> ∀ j, j < m -> cs[i * m + j]? = some (.int k ((zss.getD i []).getD j 0)) := by
 cases fuel with
 | zero => simp [DataW.trod] at h
 | succ fuel =>
  simp only [DataW.trod, ht, hce] at h
  split at h
  ·obtain ⟨xs, hm, hx⟩ := Option.map_eq_some_iff.1 h
   have hxs : xs.map (·.1) = zss.map (Lib.tabData k) := by
    have := congrArg Prod.fst hx
    simpa using this
   intro i hi j hj
   obtain ⟨b, hb, hfb⟩ := Lib.mapM_at hm i i (by simp [hi])
   have h2 : (xs.map (·.1))[i]? = some b.1 := by simp [hb]
   rw [hxs, List.getElem?_map] at h2
   obtain ⟨zs, hz, hzb⟩ := Option.map_eq_some_iff.1 h2
   obtain ⟨b1, b2⟩ := b
   simp only at hzb
   subst hzb
   have h3 := Lib.cells_of_tab he hf hcf hce hfb
   have hlen : zs.length = m \/ True := .inr trivial
   have h4 : ((cs.drop (i * m)).take m)[j]? = (zs.map fun z => Value.int k z)[j]? := by rw [h3]
   rw [List.getElem?_take_of_lt hj, List.getElem?_drop] at h4
   rw [h4, List.getD_eq_getElem?_getD (l := zss), hz, Option.getD_some, List.getElem?_map, List.getD_eq_getElem?_getD]
   have hzl : zs.length = m := by
    cases fuel with
    | zero => simp [DataW.trod] at hfb
    | succ fuel =>
     simp only [DataW.trod, he, hcf] at hfb
     split at hfb
     ·obtain ⟨ys, hm', hx'⟩ := Option.map_eq_some_iff.1 hfb
      have hl := congrArg (fun q => match q.1 with | DataW.agg l => l.length | _ => 0) hx'
      have hl2 := Lib.mapM_length hm'
      simp [Lib.tabData] at hl
      simp at hl2
      omega
     ·cases hfb
   rw [List.getElem?_eq_getElem (by omega)]
   rfl
  ·cases h
abbrev zssT : List (List Int) := [[0, 1, 1, 1, 1, 1, 1, 1, 1, 1], [0, 4, 2, 3, 4, 5, 6, 7, 8, 9], [0, 2, 2, 3, 2, 2, 2, 2, 2, 2], [0, 1, 1, 3, 4, 5, 6, 7, 8, 9], [0, 3, 3, 3, 3, 3, 3, 3, 3, 3], [0, 1, 2, 1, 4, 5, 6, 7, 8, 9], [0, 1, 2, 3, 6, 5, 6, 6, 6, 6], [0, 1, 2, 3, 4, 6, 6, 7, 8, 9], [0, 1, 2, 3, 4, 5, 6, 7, 9, 9], [0, 1, 2, 3, 4, 5, 6, 7, 8, 8], [0, 1, 2, 3, 4, 5, 6, 7, 8, 9], [0, 1, 2, 3, 5, 5, 6, 5, 5, 5], [0, 1, 2, 3, 5, 5, 6, 5, 5, 5], [0, 1, 2, 3, 5, 5, 6, 5, 5, 5], [0, 1, 2, 3, 7, 7, 7, 7, 7, 7], [0, 1, 2, 3, 7, 7, 7, 7, 7, 7], [0, 1, 2, 3, 8, 8, 8, 8, 8, 8]]
theorem c62 : ∀ i, i < 170 -> (c10 1).getD i 0 = (zssT.getD (i / 10) []).getD (i % 10) 0 := by decide
theorem b8z {W : World} {x : String × DataW Unit} {r : List (String × DataW Unit)} (h : laidMet Tryd.prog (x :: r) W) : laidMet Tryd.prog r W := by
 obtain ⟨ps, ⟨g, t, cs, fuel, p, q, _, _, _, _, hq, rfl⟩, h2, h3⟩ := h
 exact ⟨q, hq, (List.nodup_append.1 h2).2.1, fun b off hm => h3 b off (List.mem_append_right _ hm)⟩
theorem c5v {W : World} (h : laidMetH Tryd.prog LD W) : b7i W := by
 rw [MakeChecks.laidMetH_plain _ _ _ (by kernel_rfl)] at h
 have hT := Lib.tabIs_of_head (zs := [0, 1, 2, 3, 4, 5, 6, 7, 8, 9, 10, 7, 10, 8]) (k := .i64) gF tF Tryd.underlying171 Tryd.underlying3 (by kernel_rfl) (by kernel_rfl) (b8z h)
 obtain ⟨ps, ⟨g1, t1, cs1, fuel, p, q, hg1, ht1, hv, hd, _, _⟩, _⟩ := h
 obtain rfl := Option.some.inj (gT.symm.trans hg1)
 obtain rfl := Option.some.inj (tT.symm.trans ht1)
 have hcell := b2k (zss := zssT) (k := .i64) Tryd.underlying173 Tryd.underlying172 Tryd.underlying3 (by kernel_rfl) (by kernel_rfl) hd
 have hsz : ∀ (g i : Nat) (v : Value), W.cell? ⟨g, i, none⟩ = some v -> g < W.heap.size := fun g i v hc => by
  unfold World.cell? at hc
  cases hb : W.heap[g]? with
  | none => simp [hb] at hc
  | some o => exact (Array.getElem?_eq_some_iff.1 hb).1
 intro g i z hz
 rcases g with _ | g
 ·have hi : i < 14 := by
   have := (List.getElem?_eq_some_iff.1 hz).1
   exact this
  have hc := hT.cell gF i hi
  have hz' : ([0, 1, 2, 3, 4, 5, 6, 7, 8, 9, 10, 7, 10, 8] : List Int).getD i 0 = z := by
   rw [List.getD_eq_getElem?_getD]
   have hz : ([0, 1, 2, 3, 4, 5, 6, 7, 8, 9, 10, 7, 10, 8] : List Int)[i]? = some z := hz
   rw [hz]; rfl
  rw [hz'] at hc
  exact ⟨hc, hsz _ _ _ hc⟩
 ·rcases g with _ | g
  ·have hi : i < 170 := by
    have := (List.getElem?_eq_some_iff.1 hz).1
    exact this
   have h1 := hcell (i / 10) (by omega) (i % 10) (by omega)
   rw [show i / 10 * 10 + i % 10 = i by omega, <- c62 i hi, List.getD_eq_getElem?_getD, hz, Option.getD_some] at h1
   have hc := World.var?_cell gT hv i
   rw [<- Array.getElem?_toList, h1] at hc
   exact ⟨hc, hsz _ _ _ hc⟩
  ·simp [c10] at hz
theorem wfk {k : IntKind} {n : Int} {a b : Int} (h : (Lit.int k n).wf = true) (ha : k.min = a) (hb : k.max = b) : a <= n /\ n <= b := by
 simp only [Lit.wf, ha, hb, Bool.and_eq_true, decide_eq_true_eq] at h
 exact h
theorem wI {n : Int} (h : (Lit.int .i64 n).wf = true) : inI n := wfk h rfl rfl
theorem wU {n : Int} (h : (Lit.int .u64 n).wf = true) : inU n := wfk h rfl rfl
section
variable {H : Type} {enc : TypeId × Value -> H} {W : World} {base : Nat} {v : Value} {d : DataW H} {p : List MemPlace}
theorem b0t {P : Program} {w : World} {sp : Nat -> Bool} {held : Bool} {t : TypeId} {fs : Array Field} {cs : List Value} {fuel : Nat} {x : DataW H × List MemPlace}
  (hu : P.underlying t = some (.struct fs)) (h : DataW.trod enc P w base sp held fuel t cs = some x) :
  cs.length = P.cellsOf t /\ ∀ (i : Nat) (g : Field), fs[i]? = some g -> ∃ n y, DataW.trod enc P w base sp held n g.type ((cs.drop g.offset).take (P.cellsOf g.type)) = some y := by
 obtain ⟨ys, mm, _, _, hy, hyl, hfl⟩ := DataW.trod_struct hu h
 refine ⟨by omega, fun i g hg => ?_⟩
 have := hfl i g hg
 have hi : i < fs.size := (Array.getElem?_eq_some_iff.1 hg).1
 rw [List.getElem?_eq_getElem (by omega)] at this
 exact ⟨_, _, this⟩
theorem c42 {n : Nat} {y : DataW H × List MemPlace} {cs : List Value} (h : DataW.trod enc Tryd.prog W 0 (fun _ => true) true n 3 cs = some y) : ∃ z : Int, cs = [.int .i64 z] := by
 have hk := a7v 3 3 [.int .i64] _ _ _ (by kernel_rfl) h
 obtain ⟨u0, r0, e0, ⟨z0, rfl, w0⟩, hk1⟩ := hk.cons
 obtain rfl := hk1.nil
 exact ⟨z0, e0⟩
theorem c4z {z : Int} : Opn W [.int .i64 z] [] (fun _ => [.val (.int .i64 z)]) [] := ⟨c6d, by simp [Value.oneCell']⟩
theorem b8v {n : Nat} {y : DataW H × List MemPlace} {cs : List Value} (h2 : DataW.trod enc Tryd.prog W 0 (fun _ => true) true n 22 cs = some y) :
  ∃ (l : List Ed) (cap : Option Nat) (o : Option Loc), l.length <= maxLen /\ Opn W cs [o] (fun b => [.sl b 4 0 l.length cap]) [gB l] := by
 obtain ⟨l, cap', o, hl, hm, q2⟩ := b62 (cells := edC) (d := ed0) (ks := [.int .i64, .int .i64, .int .i64, .int .i64]) (n0 := 3) Tryd.underlying22 (by kernel_rfl) (by kernel_rfl) (by decide)
  (fun F => ⟨intOf (F 0), intOf (F 1), intOf (F 2), intOf (F 3)⟩) (fun F hF ι j hj => by
   obtain ⟨z0, e0, _⟩ := hF 0 _ rfl
   obtain ⟨z1, e1, _⟩ := hF 1 _ rfl
   obtain ⟨z2, e2, _⟩ := hF 2 _ rfl
   obtain ⟨z3, e3, _⟩ := hF 3 _ rfl
   rcases j with _ | _ | _ | _ | j
   all_goals first | (simp only [edC, nth, e0, e1, e2, e3, intOf, rel]; done) | (simp at hj; omega)) h2
 exact ⟨l, cap', o, hl, q2⟩
theorem b93 {n : Nat} {y : DataW H × List MemPlace} {cs : List Value} (h2 : DataW.trod enc Tryd.prog W 0 (fun _ => true) true n 25 cs = some y) :
  ∃ (l : List Nd) (cap : Option Nat) (o : Option Loc), l.length <= maxLen /\ (∀ x, wfD (owD (l.getD x nd0))) /\ Opn W cs [o] (fun b => [.sl b 6 0 l.length cap]) [ndB l] := by
 obtain ⟨l, cap', o, hl, hm, q2⟩ := b62 (cells := ndC) (d := nd0) (ks := [.int .u64, .int .i64, .int .i64, .int .i64, .int .i64, .int .i64]) (n0 := 4) Tryd.underlying25 (by kernel_rfl) (by kernel_rfl) (by decide)
  (fun F => ⟨intOf (F 0), intOf (F 1), intOf (F 2), intOf (F 3), intOf (F 4), intOf (F 5)⟩) (fun F hF ι j hj => by
   obtain ⟨z0, e0, _⟩ := hF 0 _ rfl
   obtain ⟨z1, e1, _⟩ := hF 1 _ rfl
   obtain ⟨z2, e2, _⟩ := hF 2 _ rfl
   obtain ⟨z3, e3, _⟩ := hF 3 _ rfl
   obtain ⟨z4, e4, _⟩ := hF 4 _ rfl
   obtain ⟨z5, e5, _⟩ := hF 5 _ rfl
   rcases j with _ | _ | _ | _ | _ | _ | j
   all_goals first | (simp only [ndC, nth, e0, e1, e2, e3, e4, e5, intOf, rel]; done) | (simp at hj; omega)) h2
 refine ⟨l, cap', o, hl, fun x => ?_, q2⟩
 have key : ∀ a : Nd, a ∈ l \/ a = nd0 -> wfD (owD a) := by
  rintro a (ha | rfl)
  ·obtain ⟨F, hF, rfl⟩ := hm a ha
   obtain ⟨z0, e0, w0⟩ := hF 0 _ rfl
   obtain ⟨z1, e1, w1⟩ := hF 1 _ rfl
   obtain ⟨z2, e2, w2⟩ := hF 2 _ rfl
   obtain ⟨z3, e3, w3⟩ := hF 3 _ rfl
   obtain ⟨z4, e4, w4⟩ := hF 4 _ rfl
   obtain ⟨z5, e5, w5⟩ := hF 5 _ rfl
   rw [e0, e1, e2, e3, e4, e5]
   have z : inI 0 := by unfold inI; omega
   exact ⟨wI w1, wI w2, wI w3, wI w4, wI w5, wU w0, z, wU w0, z, wU w0, z⟩
  ·have z : inI 0 := by unfold inI; omega
   have u : inU 0 := by unfold inU; omega
   exact ⟨z, z, z, z, z, u, z, u, z, u, z⟩
 refine key _ ?_
 by_cases hx : x < l.length
 ·exact .inl (a6r l x nd0 hx)
 ·right
  rw [List.getD_eq_getElem?_getD, List.getElem?_eq_none (by omega)]; rfl
theorem c54 (hval : Value.okWide Tryd.prog W .any base 27 v) (hd : DataW.Trod enc Tryd.prog W 0 (fun _ => true) true 27 v d p) :
  ∃ (n : Int) (l : List Ed) (cap : Option Nat) (_ : l.length <= maxLen) (ns : List Nd) (cap' : Option Nat) (_ : ns.length <= maxLen) (_ : ∀ x, wfD (owD (ns.getD x nd0))) (o o' : Option Loc), OpA W [v] [o, o'] (fun b => [.agg [.val (.int .i64 n), .sl b 4 0 l.length cap, .sl (b + 1) 6 0 ns.length cap']]) [gB l, ndB ns] := by
 obtain ⟨cs, rfl, _⟩ := okWide_struct Tryd.underlying27 hval
 obtain ⟨fuel, hf⟩ := hd
 obtain ⟨hlen, each⟩ := b0t Tryd.underlying27 hf
 simp only [Value.cells] at hlen each
 have hlen : cs.toList.length = 3 := hlen.trans (by kernel_rfl)
 obtain ⟨_, _, q0⟩ := each 0 _ rfl
 obtain ⟨_, _, q1⟩ := each 1 _ rfl
 have c24 : Tryd.prog.cellsOf 24 = 2 := by kernel_rfl
 have c25 : Tryd.prog.cellsOf 25 = 1 := by kernel_rfl
 have c3 : Tryd.prog.cellsOf 3 = 1 := by kernel_rfl
 have c22 : Tryd.prog.cellsOf 22 = 1 := by kernel_rfl
 have q0 : DataW.trod enc Tryd.prog W 0 (fun _ => true) true _ 24 ((cs.toList.drop 0).take (Tryd.prog.cellsOf 24)) = some _ := q0
 have q1 : DataW.trod enc Tryd.prog W 0 (fun _ => true) true _ 25 ((cs.toList.drop 2).take (Tryd.prog.cellsOf 25)) = some _ := q1
 rw [c24] at q0
 rw [c25] at q1
 obtain ⟨_, each2⟩ := b0t Tryd.underlying24 q0
 obtain ⟨_, _, r0⟩ := each2 0 _ rfl
 obtain ⟨_, _, r1⟩ := each2 1 _ rfl
 have r0 : DataW.trod enc Tryd.prog W 0 (fun _ => true) true _ 3 ((((cs.toList.drop 0).take 2).drop 0).take (Tryd.prog.cellsOf 3)) = some _ := r0
 have r1 : DataW.trod enc Tryd.prog W 0 (fun _ => true) true _ 22 ((((cs.toList.drop 0).take 2).drop 1).take (Tryd.prog.cellsOf 22)) = some _ := r1
 rw [c3] at r0
 rw [c22] at r1
 obtain ⟨z0, e0⟩ := c42 r0
 obtain ⟨l, cap, o, hl, q2⟩ := b8v r1
 obtain ⟨ns, cap', o', hn, hw, q3⟩ := b93 q1
 have hq := (((c4z (W := W) (z := z0)).app q2).app q3).agg
 generalize hL : cs.toList = L at *
 match L, hlen with
 | [a, b, c], _ =>
  simp only [List.drop, List.take, List.cons.injEq, and_true] at e0
  have hcs : cs = #[a, b, c] := by rw [<- hL]
  subst e0
  refine ⟨z0, l, cap, hl, ns, cap', hn, hw, o, o', ?_⟩
  rw [hcs]
  exact hq
end
end Go.Vx.L42.B

/- Lemmas of a small executor for the model, and contracts of functions, used for the law that this claim proves. No condition. -/
import Derived.Test.YtodbfpjjahpahaaGreatDoorEP17
import Derived.Test.YtodbfpjjahpahaaGreatDoorEW3
import Derived.Test.YtodbfpjjahpahaaGreatDoorRows
set_option linter.unusedSimpArgs false
set_option linter.unusedVariables false
set_option maxRecDepth 100000
namespace Go.Vx.L58
open Go Go.Proofs Go.Proofs.YtodbfpjjahpahaaGreatDoor
open Go.ChangeShapes Go.WideShapes Go.RowKit Go.Deep
theorem own : ownKnob Tryz.prog.godebug = none := by kernel_rfl
theorem laid : laidOutB Tryz.prog = true := by kernel_rfl
abbrev LD : List (String × DataW Unit) := [("timesync/dataset.fields", Rows.laid_timesync_dataset_fields)]
theorem gF : Tryz.prog.globalNamed "timesync/dataset.fields" = some 0 := by kernel_rfl
theorem tF : (Tryz.prog.globals[0]?).map (·.type) = some 196 := by kernel_rfl
theorem c93 {W : World} (h : laidMetH Tryz.prog LD W) : b9t W := by
 rw [MakeChecks.laidMetH_plain _ _ _ (by kernel_rfl)] at h
 have hT := Lib.tabIs_of_head (zs := [0, 1, 2, 3, 4, 5, 6, 7, 8, 9, 10, 7, 10, 8]) (k := .i64) gF tF Tryz.underlying196 Tryz.underlying3 (by kernel_rfl) (by kernel_rfl) h
 intro g i z hz
 rcases g with _ | g
 ·have hi : i < 14 := by
   have := (List.getElem?_eq_some_iff.1 hz).1
   exact this
  have hc := hT.cell gF i hi
  have hz' : ([0, 1, 2, 3, 4, 5, 6, 7, 8, 9, 10, 7, 10, 8] : List Int).getD i 0 = z := by
   rw [List.getD_eq_getElem?_getD]
   have hz : ([0, 1, 2, 3, 4, 5, 6, 7, 8, 9, 10, 7, 10, 8] : List Int)[i]? = some z := hz
   rw [hz]; rfl
  rw [hz'] at hc
  refine ⟨hc, ?_⟩
  unfold World.cell? at hc
  cases hb : W.heap[0]? with
  | none => simp [hb] at hc
  | some o => exact (Array.getElem?_eq_some_iff.1 hb).1
 ·simp [c7a] at hz
theorem wfk {k : IntKind} {n : Int} {a b : Int} (h : (Lit.int k n).wf = true) (ha : k.min = a) (hb : k.max = b) : a <= n /\ n <= b := by
 simp only [Lit.wf, ha, hb, Bool.and_eq_true, decide_eq_true_eq] at h
 exact h
theorem wI {n : Int} (h : (Lit.int .i64 n).wf = true) : inI n := wfk h rfl rfl
theorem wU {n : Int} (h : (Lit.int .u64 n).wf = true) : inU n := wfk h rfl rfl
section
variable {H : Type} {enc : TypeId × Value -> H} {W : World} {base : Nat} {v : Value} {d : DataW H} {p : List MemPlace}
theorem a6x {P : Program} {w : World} {sp : Nat -> Bool} {held : Bool} {t : TypeId} {fs : Array Field} {cs : List Value} {fuel : Nat} {x : DataW H × List MemPlace}
  (hu : P.underlying t = some (.struct fs)) (h : DataW.trod enc P w base sp held fuel t cs = some x) :
  cs.length = P.cellsOf t /\ ∀ (i : Nat) (g : Field), fs[i]? = some g -> ∃ n y, DataW.trod enc P w base sp held n g.type ((cs.drop g.offset).take (P.cellsOf g.type)) = some y := by
 obtain ⟨ys, mm, _, _, hy, hyl, hfl⟩ := DataW.trod_struct hu h
 refine ⟨by omega, fun i g hg => ?_⟩
 have := hfl i g hg
 have hi : i < fs.size := (Array.getElem?_eq_some_iff.1 hg).1
 rw [List.getElem?_eq_getElem (by omega)] at this
 exact ⟨_, _, this⟩
theorem d02 {n : Nat} {y : DataW H × List MemPlace} {cs : List Value} (h : DataW.trod enc Tryz.prog W 0 (fun _ => true) true n 3 cs = some y) : ∃ z : Int, cs = [.int .i64 z] := by
 have hk := a5w 3 3 [.int .i64] _ _ _ (by kernel_rfl) h
 obtain ⟨u0, r0, e0, ⟨z0, rfl, w0⟩, hk1⟩ := hk.cons
 obtain rfl := hk1.nil
 exact ⟨z0, e0⟩
theorem c9y {z : Int} : Opn W [.int .i64 z] [] (fun _ => [.val (.int .i64 z)]) [] := ⟨c05, by simp [Value.oneCell']⟩
theorem c34 {n : Nat} {y : DataW H × List MemPlace} {cs : List Value} (h2 : DataW.trod enc Tryz.prog W 0 (fun _ => true) true n 22 cs = some y) :
  ∃ (l : List Ed) (cap : Option Nat) (o : Option Loc), l.length <= maxLen /\ Opn W cs [o] (fun b => [.sl b 4 0 l.length cap]) [gB l] := by
 obtain ⟨l, cap', o, hl, hm, q2⟩ := a9i (cells := edC) (d := ed0) (ks := [.int .i64, .int .i64, .int .i64, .int .i64]) (n0 := 3) Tryz.underlying22 (by kernel_rfl) (by kernel_rfl) (by decide)
  (fun F => ⟨intOf (F 0), intOf (F 1), intOf (F 2), intOf (F 3)⟩) (fun F hF ι j hj => by
   obtain ⟨z0, e0, _⟩ := hF 0 _ rfl
   obtain ⟨z1, e1, _⟩ := hF 1 _ rfl
   obtain ⟨z2, e2, _⟩ := hF 2 _ rfl
   obtain ⟨z3, e3, _⟩ := hF 3 _ rfl
   rcases j with _ | _ | _ | _ | j
   all_goals first | (simp only [edC, nth, e0, e1, e2, e3, intOf, rel]; done) | (simp at hj; omega)) h2
 exact ⟨l, cap', o, hl, q2⟩
theorem c4q {n : Nat} {y : DataW H × List MemPlace} {cs : List Value} (h2 : DataW.trod enc Tryz.prog W 0 (fun _ => true) true n 25 cs = some y) :
  ∃ (l : List Nd) (cap : Option Nat) (o : Option Loc), l.length <= maxLen /\ (∀ x, wfD (owD (l.getD x nd0))) /\ Opn W cs [o] (fun b => [.sl b 6 0 l.length cap]) [ndB l] := by
 obtain ⟨l, cap', o, hl, hm, q2⟩ := a9i (cells := ndC) (d := nd0) (ks := [.int .u64, .int .i64, .int .i64, .int .i64, .int .i64, .int .i64]) (n0 := 4) Tryz.underlying25 (by kernel_rfl) (by kernel_rfl) (by decide)
  (fun F => ⟨intOf (F 0), intOf (F 1), intOf (F 2), intOf (F 3), intOf (F 4), intOf (F 5)⟩) (fun F hF ι j hj => by
   obtain ⟨z0, e0, _⟩ := hF 0 _ rfl
   obtain ⟨z1, e1, _⟩ := hF 1 _ rfl
   obtain ⟨z2, e2, _⟩ := hF 2 _ rfl
   obtain ⟨z3, e3, _⟩ := hF 3 _ rfl
   obtain ⟨z4, e4, _⟩ := hF 4 _ rfl
   obtain ⟨z5, e5, _⟩ := hF 5 _ rfl
   rcases j with _ | _ | _ | _ | _ | _ | j
   all_goals first | (simp only [ndC, nth, e0, e1, e2, e3, e4, e5, intOf, rel]; done) | (simp at hj; omega)) h2
 refine ⟨l, cap', o, hl, fun x => ?_, q2⟩
 have key : ∀ a : Nd, a ∈ l \/ a = nd0 -> wfD (owD a) := by
  rintro a (ha | rfl)
  ·obtain ⟨F, hF, rfl⟩ := hm a ha
   obtain ⟨z0, e0, w0⟩ := hF 0 _ rfl
   obtain ⟨z1, e1, w1⟩ := hF 1 _ rfl
   obtain ⟨z2, e2, w2⟩ := hF 2 _ rfl
   obtain ⟨z3, e3, w3⟩ := hF 3 _ rfl
   obtain ⟨z4, e4, w4⟩ := hF 4 _ rfl
   obtain ⟨z5, e5, w5⟩ := hF 5 _ rfl
   rw [e0, e1, e2, e3, e4, e5]
   have z : inI 0 := by unfold inI; omega
   exact ⟨wI w1, wI w2, wI w3, wI w4, wI w5, wU w0, z, wU w0, z, wU w0, z⟩
  ·have z : inI 0 := by unfold inI; omega
   have u : inU 0 := by unfold inU; omega
   exact ⟨z, z, z, z, z, u, z, u, z, u, z⟩
 refine key _ ?_
 by_cases hx : x < l.length
 ·exact .inl (a2s l x nd0 hx)
 ·right
  rw [List.getD_eq_getElem?_getD, List.getElem?_eq_none (by omega)]; rfl
theorem b3g {n : Nat} {y : DataW H × List MemPlace} {cs : List Value} (h2 : DataW.trod enc Tryz.prog W 0 (fun _ => true) true n 29 cs = some y) :
  ∃ (l : List Int) (cap : Option Nat) (o : Option Loc), l.length <= maxLen /\ Opn W cs [o] (fun b => [.sl b 1 0 l.length cap]) [iB false l] := by
 obtain ⟨l, cap', o, hl, hm, q2⟩ := a9i (cells := b3h) (d := (0 : Int)) (ks := [.int .i64]) (n0 := 3) Tryz.underlying29 (by kernel_rfl) (by kernel_rfl) (by decide)
  (fun F => intOf (F 0)) (fun F hF ι j hj => by
   obtain ⟨z0, e0, _⟩ := hF 0 _ rfl
   rcases j with _ | j
   all_goals first | (simp only [b3h, nth, e0, intOf, rel]; done) | (simp at hj)) h2
 exact ⟨l, cap', o, hl, q2⟩
def d2s : Value -> Bool
 | .bool b => b
 | _ => false
theorem c4t {n : Nat} {y : DataW H × List MemPlace} {cs : List Value} (h2 : DataW.trod enc Tryz.prog W 0 (fun _ => true) true n 30 cs = some y) :
  ∃ (l : List Bool) (cap : Option Nat) (o : Option Loc), l.length <= maxLen /\ Opn W cs [o] (fun b => [.sl b 1 0 l.length cap]) [blB l] := by
 obtain ⟨l, cap', o, hl, hm, q2⟩ := a9i (cells := b9w) (d := false) (ks := [.bool]) (n0 := 3) Tryz.underlying30 (by kernel_rfl) (by kernel_rfl) (by decide)
  (fun F => d2s (F 0)) (fun F hF ι j hj => by
   obtain ⟨z0, e0⟩ := hF 0 _ rfl
   rcases j with _ | j
   all_goals first | (simp only [b9w, nth, e0, d2s, rel]; done) | (simp at hj)) h2
 exact ⟨l, cap', o, hl, q2⟩
theorem d1g {n : Nat} {y : DataW H × List MemPlace} {cs : List Value} (h2 : DataW.trod enc Tryz.prog W 0 (fun _ => true) true n 28 cs = some y) :
  ∃ (os : List Osc) (hh : Nat -> Value) (cap : Option Nat) (o o' : Option Loc), os.length <= maxLen /\ Opn W cs [o, o'] (fun b => [.sl b 2 0 os.length cap]) [osB os hh, osR os hh] :=
 c14 (n0 := 4) (n1 := 3) Tryz.underlying28 Tryz.underlying45 rfl rfl rfl rfl rfl rfl (by kernel_rfl) (by kernel_rfl) (by kernel_rfl) Tryz.underlying43 (by kernel_rfl) (by kernel_rfl) (by kernel_rfl) h2 3
theorem d0l {n : Nat} {y : DataW H × List MemPlace} {cs : List Value} (h2 : DataW.trod enc Tryz.prog W 0 (fun _ => true) true n 27 cs = some y) :
  ∃ (n : Int) (l : List Ed) (cap : Option Nat) (ns : List Nd) (cap' : Option Nat) (o o' : Option Loc), l.length <= maxLen /\ ns.length <= maxLen /\ (∀ x, wfD (owD (ns.getD x nd0))) /\ Opn W cs [o, o'] (fun b => [.val (.int .i64 n), .sl b 4 0 l.length cap, .sl (b + 1) 6 0 ns.length cap']) [gB l, ndB ns] := by
 obtain ⟨hlen, each⟩ := a6x Tryz.underlying27 h2
 have hlen : cs.length = 3 := hlen.trans (by kernel_rfl)
 obtain ⟨_, _, q0⟩ := each 0 _ rfl
 obtain ⟨_, _, q1⟩ := each 1 _ rfl
 have c24 : Tryz.prog.cellsOf 24 = 2 := by kernel_rfl
 have c25 : Tryz.prog.cellsOf 25 = 1 := by kernel_rfl
 have c3 : Tryz.prog.cellsOf 3 = 1 := by kernel_rfl
 have c22 : Tryz.prog.cellsOf 22 = 1 := by kernel_rfl
 have q0 : DataW.trod enc Tryz.prog W 0 (fun _ => true) true _ 24 ((cs.drop 0).take (Tryz.prog.cellsOf 24)) = some _ := q0
 have q1 : DataW.trod enc Tryz.prog W 0 (fun _ => true) true _ 25 ((cs.drop 2).take (Tryz.prog.cellsOf 25)) = some _ := q1
 rw [c24] at q0
 rw [c25] at q1
 obtain ⟨_, each2⟩ := a6x Tryz.underlying24 q0
 obtain ⟨_, _, r0⟩ := each2 0 _ rfl
 obtain ⟨_, _, r1⟩ := each2 1 _ rfl
 have r0 : DataW.trod enc Tryz.prog W 0 (fun _ => true) true _ 3 ((((cs.drop 0).take 2).drop 0).take (Tryz.prog.cellsOf 3)) = some _ := r0
 have r1 : DataW.trod enc Tryz.prog W 0 (fun _ => true) true _ 22 ((((cs.drop 0).take 2).drop 1).take (Tryz.prog.cellsOf 22)) = some _ := r1
 rw [c3] at r0
 rw [c22] at r1
 obtain ⟨z0, e0⟩ := d02 r0
 obtain ⟨l, cap, o, hl, q2⟩ := c34 r1
 obtain ⟨ns, cap', o', hn, hw, q3⟩ := c4q q1
 have hq := (((c9y (W := W) (z := z0)).app q2).app q3)
 match cs, hlen with
 | [a, b, c], _ =>
  simp only [List.drop, List.take, List.cons.injEq, and_true] at e0
  subst e0
  exact ⟨_, l, cap, ns, cap', o, o', hl, hn, hw, hq⟩
theorem c1w (hval : Value.okWide Tryz.prog W .any base 32 v) (hd : DataW.Trod enc Tryz.prog W 0 (fun _ => true) true 32 v d p) :
  ∃ (s : Scn) (_ : SOk s) (o0 o1 o2 o3 o4 o5 o6 o7 : Option Loc), OpA W [v] [o0, o1, o2, o3, o4, o5, o6, o7] (fun b => [.agg [.val (.int .i64 s.n), .sl b 4 0 s.l.length s.c0, .sl (b + 1) 6 0 s.ns.length s.c1, .sl (b + 2) 2 0 s.os.length s.c2, .sl (b + 4) 1 0 s.dn.length s.c3, .sl (b + 5) 1 0 s.up.length s.c4, .sl (b + 6) 1 0 s.tr.length s.c5, .sl (b + 7) 1 0 s.st.length s.c6]]) (scB s) := by
 obtain ⟨cs, rfl, _⟩ := okWide_struct Tryz.underlying32 hval
 obtain ⟨fuel, hf⟩ := hd
 obtain ⟨hlen, each⟩ := a6x Tryz.underlying32 hf
 simp only [Value.cells] at hlen each
 have hlen : cs.toList.length = 8 := hlen.trans (by kernel_rfl)
 obtain ⟨_, _, q0⟩ := each 0 _ rfl
 obtain ⟨_, _, q1⟩ := each 1 _ rfl
 obtain ⟨_, _, q2⟩ := each 2 _ rfl
 obtain ⟨_, _, q3⟩ := each 3 _ rfl
 obtain ⟨_, _, q4⟩ := each 4 _ rfl
 obtain ⟨_, _, q5⟩ := each 5 _ rfl
 have c27 : Tryz.prog.cellsOf 27 = 3 := by kernel_rfl
 have c28 : Tryz.prog.cellsOf 28 = 1 := by kernel_rfl
 have c29 : Tryz.prog.cellsOf 29 = 1 := by kernel_rfl
 have c30 : Tryz.prog.cellsOf 30 = 1 := by kernel_rfl
 have q0 : DataW.trod enc Tryz.prog W 0 (fun _ => true) true _ 27 ((cs.toList.drop 0).take (Tryz.prog.cellsOf 27)) = some _ := q0
 have q1 : DataW.trod enc Tryz.prog W 0 (fun _ => true) true _ 28 ((cs.toList.drop 3).take (Tryz.prog.cellsOf 28)) = some _ := q1
 have q2 : DataW.trod enc Tryz.prog W 0 (fun _ => true) true _ 29 ((cs.toList.drop 4).take (Tryz.prog.cellsOf 29)) = some _ := q2
 have q3 : DataW.trod enc Tryz.prog W 0 (fun _ => true) true _ 29 ((cs.toList.drop 5).take (Tryz.prog.cellsOf 29)) = some _ := q3
 have q4 : DataW.trod enc Tryz.prog W 0 (fun _ => true) true _ 30 ((cs.toList.drop 6).take (Tryz.prog.cellsOf 30)) = some _ := q4
 have q5 : DataW.trod enc Tryz.prog W 0 (fun _ => true) true _ 29 ((cs.toList.drop 7).take (Tryz.prog.cellsOf 29)) = some _ := q5
 rw [c27] at q0
 rw [c28] at q1
 rw [c29] at q2 q3 q5
 rw [c30] at q4
 obtain ⟨n, l, k0, ns, k1, o0, o1, hl, hn, hw, w0⟩ := d0l q0
 obtain ⟨os, hh, k2, o2, o3, _, w1⟩ := d1g q1
 obtain ⟨dn, k3, o4, _, w2⟩ := b3g q2
 obtain ⟨up, k4, o5, _, w3⟩ := b3g q3
 obtain ⟨tr, k5, o6, _, w4⟩ := c4t q4
 obtain ⟨st, k6, o7, _, w5⟩ := b3g q5
 have hq := (((((w0.app w1).app w2).app w3).app w4).app w5).agg
 generalize hL : cs.toList = L at *
 match L, hlen with
 | [a, b, c, x0, x1, x2, x3, x4], _ =>
  have hcs : cs = #[a, b, c, x0, x1, x2, x3, x4] := by rw [<- hL]
  refine ⟨⟨n, l, k0, ns, k1, os, k2, hh, dn, k3, up, k4, tr, k5, st, k6⟩, ⟨hl, hn, hw⟩, o0, o1, o2, o3, o4, o5, o6, o7, ?_⟩
  rw [hcs]
  exact hq
end
end Go.Vx.L58

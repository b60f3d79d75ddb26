/- Lemmas of a small executor for the model, and contracts of functions, used for the law that this claim proves. No condition. -/
import Derived.Test.YtodbfpjjahpahaaDoorG4
import Derived.Test.YtodbfpjjahpahaaDoorSk1
import Derived.Shelf.SlIterI.Nil
import Derived.Shelf.SortM.Plain
import Derived.Shelf.SortM.SortNone
import Derived.Shelf.LaySoft
import Derived.Ground.GgzProg
import Derived.Ground.SlgmProg
set_option linter.unusedSimpArgs false
set_option linter.unusedVariables false
namespace Go.Proofs
open Go.RowKit Go.Maps Go.Sort Go.Shelf
def Tryd.keysA_ren : Go.Shelf.Ren := ⟨fun | 7 => 71 | 10 => 82 | n => n, fun | 23 => 163 | 26 => 3 | 3 => 4 | 28 => 166 | 0 => 0 | 27 => 165 | 33 => 135 | 4 => 4 | n => n, fun | n => n⟩
theorem Tryd.keysA : Go.Proofs.SlLaysZI.n7 Tryd.prog Tryd.keysA_ren := {
  mixed := by kernel_rfl
  f7 := ⟨ "maps.Keys[map[int]bool,int,bool]", by decide, Tryd.func71.trans (congrArg some (by kernel_rfl))⟩
  f10 := ⟨ "maps.Keys[map[int]bool,int,bool]$1", by decide, Tryd.func82.trans (congrArg some (by kernel_rfl))⟩
  t0 := Tryd.underlying0
  a0 := Tryd.isAgg0
  z0 := Tryd.sizeOf0
  v0 := Tryd.zeroValue0
  t4 := Tryd.underlying4
  a4 := Tryd.isAgg4
  z4 := Tryd.sizeOf4
  v4 := Tryd.zeroValue4
  t23 := Tryd.underlying163
  a23 := Tryd.isAgg163
  z23 := Tryd.sizeOf163
  v23 := Tryd.zeroValue163
  t26 := Tryd.underlying3
  a26 := Tryd.isAgg3
  z26 := Tryd.sizeOf3
  v26 := Tryd.zeroValue3
  t27 := Tryd.underlying165
  a27 := Tryd.isAgg165
  z27 := Tryd.sizeOf165
  v27 := Tryd.zeroValue165
  t28 := Tryd.underlying166
  a28 := Tryd.isAgg166
  z28 := Tryd.sizeOf166
  v28 := Tryd.zeroValue166
  t33 := Tryd.underlying135
  a33 := Tryd.isAgg135
  z33 := Tryd.sizeOf135
  v33 := Tryd.zeroValue135 }
def Tryd.sortedA_ren : Go.Shelf.Ren := ⟨fun | 6 => 70 | 8 => 81 | 9 => 72 | 11 => 91 | 13 => 84 | 12 => 83 | 23 => 101 | 24 => 102 | 14 => 92 | 15 => 93 | 16 => 94 | 17 => 95 | 18 => 96 | 19 => 97 | 20 => 98 | 21 => 99 | 22 => 100 | 25 => 107 | 26 => 108 | 27 => 109 | 28 => 110 | 29 => 111 | 30 => 112 | 31 => 113 | n => n, fun | 26 => 3 | 28 => 166 | 24 => 58 | 0 => 0 | 3 => 3 | 37 => 189 | 48 => 205 | 50 => 28 | 4 => 4 | 40 => 197 | 39 => 196 | 45 => 202 | 5 => 5 | 9 => 9 | 51 => 216 | 55 => 220 | 57 => 222 | 58 => 223 | 33 => 135 | n => n, fun | n => n⟩
theorem Tryd.sortedA : Go.Proofs.SlLaysZI.n6 Tryd.prog Tryd.sortedA_ren := {
  mixed := by kernel_rfl
  f6 := ⟨ "slices.Sorted[int]", by decide, Tryd.func70.trans (congrArg some (by kernel_rfl))⟩
  f8 := ⟨ "slices.Collect[int]", by decide, Tryd.func81.trans (congrArg some (by kernel_rfl))⟩
  f11 := ⟨ "slices.AppendSeq[[]int,int]", by decide, Tryd.func91.trans (congrArg some (by kernel_rfl))⟩
  t0 := Tryd.underlying0
  a0 := Tryd.isAgg0
  z0 := Tryd.sizeOf0
  v0 := Tryd.zeroValue0
  t24 := Tryd.underlying58
  a24 := Tryd.isAgg58
  z24 := Tryd.sizeOf58
  v24 := Tryd.zeroValue58
  t26 := Tryd.underlying3
  a26 := Tryd.isAgg3
  z26 := Tryd.sizeOf3
  v26 := Tryd.zeroValue3
  t28 := Tryd.underlying166
  a28 := Tryd.isAgg166
  z28 := Tryd.sizeOf166
  v28 := Tryd.zeroValue166
  i26 := by kernel_rfl }
def Tryd.sortA_ren : Go.Shelf.Ren := ⟨fun | 5 => 72 | 8 => 84 | 7 => 83 | 19 => 101 | 20 => 102 | 10 => 92 | 11 => 93 | 12 => 94 | 13 => 95 | 14 => 96 | 15 => 97 | 16 => 98 | 17 => 99 | 18 => 100 | 30 => 107 | 31 => 108 | 32 => 109 | 33 => 110 | 34 => 111 | 35 => 112 | 40 => 113 | n => n, fun | 23 => 58 | 25 => 3 | 3 => 3 | 32 => 189 | 22 => 58 | 0 => 0 | 44 => 205 | 46 => 28 | 4 => 4 | 36 => 197 | 35 => 196 | 41 => 202 | 5 => 5 | 9 => 9 | 53 => 216 | 57 => 220 | 63 => 222 | 64 => 223 | n => n, fun | n => n⟩
theorem Tryd.sortA : Go.Proofs.SlLaysM.n5 Tryd.prog Tryd.sortA_ren := {
  mixed := by kernel_rfl
  f5 := ⟨ "slices.Sort[[]int,int]", by decide, Tryd.func72.trans (congrArg some (by kernel_rfl))⟩
  f7 := ⟨ "slices.pdqsortOrdered[int]", by decide, Tryd.func83.trans (congrArg some (by kernel_rfl))⟩
  f8 := Tryd.func84.trans (congrArg some (by kernel_rfl))
  f10 := ⟨ "slices.insertionSortOrdered[int]", by decide, Tryd.func92.trans (congrArg some (by kernel_rfl))⟩
  f11 := ⟨ "slices.heapSortOrdered[int]", by decide, Tryd.func93.trans (congrArg some (by kernel_rfl))⟩
  f12 := ⟨ "slices.breakPatternsOrdered[int]", by decide, Tryd.func94.trans (congrArg some (by kernel_rfl))⟩
  f13 := ⟨ "slices.choosePivotOrdered[int]", by decide, Tryd.func95.trans (congrArg some (by kernel_rfl))⟩
  f14 := ⟨ "slices.reverseRangeOrdered[int]", by decide, Tryd.func96.trans (congrArg some (by kernel_rfl))⟩
  f15 := ⟨ "slices.partialInsertionSortOrdered[int]", by decide, Tryd.func97.trans (congrArg some (by kernel_rfl))⟩
  f16 := ⟨ "cmp.Less[int]", by decide, Tryd.func98.trans (congrArg some (by kernel_rfl))⟩
  f17 := ⟨ "slices.partitionEqualOrdered[int]", by decide, Tryd.func99.trans (congrArg some (by kernel_rfl))⟩
  f18 := ⟨ "slices.partitionOrdered[int]", by decide, Tryd.func100.trans (congrArg some (by kernel_rfl))⟩
  f19 := Tryd.func101.trans (congrArg some (by kernel_rfl))
  f20 := Tryd.func102.trans (congrArg some (by kernel_rfl))
  f30 := ⟨ "slices.siftDownOrdered[int]", by decide, Tryd.func107.trans (congrArg some (by kernel_rfl))⟩
  f31 := Tryd.func108.trans (congrArg some (by kernel_rfl))
  f32 := Tryd.func109.trans (congrArg some (by kernel_rfl))
  f33 := ⟨ "slices.medianAdjacentOrdered[int]", by decide, Tryd.func110.trans (congrArg some (by kernel_rfl))⟩
  f34 := ⟨ "slices.medianOrdered[int]", by decide, Tryd.func111.trans (congrArg some (by kernel_rfl))⟩
  f35 := ⟨ "cmp.isNaN[int]", by decide, Tryd.func112.trans (congrArg some (by kernel_rfl))⟩
  f40 := ⟨ "slices.order2Ordered[int]", by decide, Tryd.func113.trans (congrArg some (by kernel_rfl))⟩
  t0 := Tryd.underlying0
  a0 := Tryd.isAgg0
  z0 := Tryd.sizeOf0
  v0 := Tryd.zeroValue0
  t3 := Tryd.underlying3
  a3 := Tryd.isAgg3
  z3 := Tryd.sizeOf3
  v3 := Tryd.zeroValue3
  t4 := Tryd.underlying4
  a4 := Tryd.isAgg4
  z4 := Tryd.sizeOf4
  v4 := Tryd.zeroValue4
  t5 := Tryd.underlying5
  a5 := Tryd.isAgg5
  z5 := Tryd.sizeOf5
  v5 := Tryd.zeroValue5
  t9 := Tryd.underlying9
  a9 := Tryd.isAgg9
  z9 := Tryd.sizeOf9
  v9 := Tryd.zeroValue9
  t22 := Tryd.underlying58
  a22 := Tryd.isAgg58
  z22 := Tryd.sizeOf58
  v22 := Tryd.zeroValue58
  t23 := Tryd.underlying58
  a23 := Tryd.isAgg58
  z23 := Tryd.sizeOf58
  v23 := Tryd.zeroValue58
  t25 := Tryd.underlying3
  a25 := Tryd.isAgg3
  z25 := Tryd.sizeOf3
  v25 := Tryd.zeroValue3
  t32 := Tryd.underlying189
  a32 := Tryd.isAgg189
  z32 := Tryd.sizeOf189
  v32 := Tryd.zeroValue189
  t35 := Tryd.underlying196
  a35 := Tryd.isAgg196
  z35 := Tryd.sizeOf196
  v35 := Tryd.zeroValue196
  t36 := Tryd.underlying197
  a36 := Tryd.isAgg197
  z36 := Tryd.sizeOf197
  v36 := Tryd.zeroValue197
  t41 := Tryd.underlying202
  a41 := Tryd.isAgg202
  z41 := Tryd.sizeOf202
  v41 := Tryd.zeroValue202
  t44 := Tryd.underlying205
  a44 := Tryd.isAgg205
  z44 := Tryd.sizeOf205
  v44 := Tryd.zeroValue205
  t46 := Tryd.underlying28
  a46 := Tryd.isAgg28
  z46 := Tryd.sizeOf28
  v46 := Tryd.zeroValue28
  t53 := Tryd.underlying216
  a53 := Tryd.isAgg216
  z53 := Tryd.sizeOf216
  v53 := Tryd.zeroValue216
  t57 := Tryd.underlying220
  a57 := Tryd.isAgg220
  z57 := Tryd.sizeOf220
  v57 := Tryd.zeroValue220
  t63 := Tryd.underlying222
  a63 := Tryd.isAgg222
  z63 := Tryd.sizeOf222
  v63 := Tryd.zeroValue222
  t64 := Tryd.underlying223
  a64 := Tryd.isAgg223
  z64 := Tryd.sizeOf223
  v64 := Tryd.zeroValue223 }
end Go.Proofs
set_option maxRecDepth 100000
namespace Go.Vx.L42
open Go Go.Proofs Go.RowKit Go.Maps Go.Sort Go.Shelf
theorem sortsA (m : Nat) : AnyZI.SortsIn Tryd.prog Tryd.sortedA_ren Fence.wide m :=
  ⟨fun blk off cap ss W hH hblk hsz => callsIn_wide.2 (AnyM.slices_Sort_int Tryd.sortA blk off cap ss W hH hblk hsz),
   fun p cap W => callsIn_wide.2 (AnyM.slices_Sort_int_none Tryd.sortA p cap W)⟩
theorem sorted_calls (Bm b nn : Nat) (D0 : DataW Unit) (w : World) (hBm : Bm < w.heap.size) (hcell : w.cell? ⟨Bm, 0, none⟩ = some (.map (some b))) (hown : w.ownsMap Tryd.prog 3 anyR b nn D0) (hmax : Maps.size D0 ≤ maxLen) (hbytes : Maps.size D0 * 8 ≤ 140737488355328) :
    Calls Tryd.prog 70 #[.func (.func 82) #[] #[.pointer (some ⟨Bm, 0, none⟩)]] w fun e w' => ∃ (v : Value) (ss : List Int), e = .returned v ∧ ss.Perm (intKeys D0) ∧
      w'.ownsRow w.heap.size 3 1 v ss.length ((ss.mergeSort (fun x y => decide (x ≤ y))).map encZ) ∧ (v = .slice none 0 0 ↔ ss = []) ∧ Below w.heap.size w w' := by
  have hseq : SeqGives Fence.wide 2 Tryd.prog 82 #[.pointer (some ⟨Bm, 0, none⟩)] encZ (fun ss => ss.Perm (intKeys D0)) (Maps.size D0) w :=
    AnyZI.keys_gives (ρ := Tryd.keysA_ren) { Tryd.keysA with } Fence.wide _ trivial rfl (by omega) Bm b nn D0 w hBm hcell hown
  have cS := AnyZI.sorted_in Tryd.sortedA Fence.wide 5 trivial trivial trivial trivial rfl (by omega) (sortsA _) (enters_of Tryd.func72 (by kernel_rfl) rfl) 82 #[.pointer (some ⟨Bm, 0, none⟩)] trivial (enters_of Tryd.func82 (by kernel_rfl) rfl) _ _ hmax hbytes _ hseq
  change CallsIn _ _ Tryd.prog 70 _ _ _ at cS
  exact callsIn_wide.1 cS
theorem sorted_ok (ks : List (List Int)) (c : List Int → AV) (hwf : ∀ k ∈ ks, -9223372036854775808 ≤ k.headD 0 ∧ k.headD 0 ≤ 9223372036854775807) (hlen : ks.length ≤ 1000000) :
    Runs Tryd.prog 70 [.fn (.func 82) [.ptr 0 1 0 0]] [.var [.map 1], .map none ks c] (Det (.sl 2 1 0 ks.length none) [.var [.map 1], .map none ks c, .arr true 3 1 ks.length (intF (sortK ks))]) :=
  sorted_bridge Tryd.call70 (Tab.get_ok tabOK (t := 3) rfl |> fun h => tk_int h rfl) sorted_calls ks c hwf hlen
end Go.Vx.L42

/- Lemmas of a small executor for the model, and contracts of functions, used for the law that this claim proves. No condition. -/
import Derived.Test.YtodbfpjjahpahaaDoorBG4
import Derived.Test.YtodbfpjjahpahaaDoorBSk1
import Derived.Shelf.SlIterI.Nil
import Derived.Shelf.SortM.Plain
import Derived.Shelf.SortM.SortNone
import Derived.Shelf.LaySoft
import Derived.Ground.GgzProg
import Derived.Ground.SlgmProg
set_option linter.unusedSimpArgs false
set_option linter.unusedVariables false
namespace Go.Proofs
open Go.RowKit Go.Maps Go.Sort Go.Shelf
def Tryd.keysA_ren : Go.Shelf.Ren := ⟨fun | 7 => 71 | 10 => 82 | n => n, fun | 23 => 163 | 26 => 3 | 3 => 4 | 28 => 166 | 0 => 0 | 27 => 165 | 33 => 135 | 4 => 4 | n => n, fun | n => n⟩
theorem Tryd.keysA : Go.Proofs.SlLaysZI.n7 Tryd.prog Tryd.keysA_ren := {
  mixed := by kernel_rfl
  f7 := ⟨ "maps.Keys[map[int]bool,int,bool]", by decide, Tryd.func71.trans (congrArg some (by kernel_rfl))⟩
  f10 := ⟨ "maps.Keys[map[int]bool,int,bool]$1", by decide, Tryd.func82.trans (congrArg some (by kernel_rfl))⟩
  t0 := Tryd.underlying0
  a0 := Tryd.isAgg0
  z0 := Tryd.sizeOf0
  v0 := Tryd.zeroValue0
  t4 := Tryd.underlying4
  a4 := Tryd.isAgg4
  z4 := Tryd.sizeOf4
  v4 := Tryd.zeroValue4
  t23 := Tryd.underlying163
  a23 := Tryd.isAgg163
  z23 := Tryd.sizeOf163
  v23 := Tryd.zeroValue163
  t26 := Tryd.underlying3
  a26 := Tryd.isAgg3
  z26 := Tryd.sizeOf3
  v26 := Tryd.zeroValue3
  t27 := Tryd.underlying165
  a27 := Tryd.isAgg165
  z27 := Tryd.sizeOf165
  v27 := Tryd.zeroValue165
  t28 := Tryd.underlying166
  a28 := Tryd.isAgg166
  z28 := Tryd.sizeOf166
  v28 := Tryd.zeroValue166
  t33 := Tryd.underlying135
  a33 := Tryd.isAgg135
  z33 := Tryd.sizeOf135
  v33 := Tryd.zeroValue135 }
def Tryd.sortedA_ren : Go.Shelf.Ren := ⟨fun | 6 => 70 | 8 => 81 | 9 => 72 | 11 => 91 | 13 => 84 | 12 => 83 | 23 => 101 | 24 => 102 | 14 => 92 | 15 => 93 | 16 => 94 | 17 => 95 | 18 => 96 | 19 => 97 | 20 => 98 | 21 => 99 | 22 => 100 | 25 => 107 | 26 => 108 | 27 => 109 | 28 => 110 | 29 => 111 | 30 => 112 | 31 => 113 | n => n, fun | 26 => 3 | 28 => 166 | 24 => 58 | 0 => 0 | 3 => 3 | 37 => 189 | 48 => 205 | 50 => 28 | 4 => 4 | 40 => 197 | 39 => 196 | 45 => 202 | 5 => 5 | 9 => 9 | 51 => 216 | 55 => 220 | 57 => 222 | 58 => 223 | 33 => 135 | n => n, fun | n => n⟩
theorem Tryd.sortedA : Go.Proofs.SlLaysZI.n6 Tryd.prog Tryd.sortedA_ren := {
  mixed := by kernel_rfl
  f6 := ⟨ "slices.Sorted[int]", by decide, Tryd.func70.trans (congrArg some (by kernel_rfl))⟩
  f8 := ⟨ "slices.Collect[int]", by decide, Tryd.func81.trans (congrArg some (by kernel_rfl))⟩
  f11 := ⟨ "slices.AppendSeq[[]int,int]", by decide, Tryd.func91.trans (congrArg some (by kernel_rfl))⟩
  t0 := Tryd.underlying0
  a0 := Tryd.isAgg0
  z0 := Tryd.sizeOf0
  v0 := Tryd.zeroValue0
  t24 := Tryd.underlying58
  a24 := Tryd.isAgg58
  z24 := Tryd.sizeOf58
  v24 := Tryd.zeroValue58
  t26 := Tryd.underlying3
  a26 := Tryd.isAgg3
  z26 := Tryd.sizeOf3
  v26 := Tryd.zeroValue3
  t28 := Tryd.underlying166
  a28 := Tryd.isAgg166
  z28 := Tryd.sizeOf166
  v28 := Tryd.zeroValue166
  i26 := by kernel_rfl }
def Tryd.sortA_ren : Go.Shelf.Ren := ⟨fun | 5 => 72 | 8 => 84 | 7 => 83 | 19 => 101 | 20 => 102 | 10 => 92 | 11 => 93 | 12 => 94 | 13 => 95 | 14 => 96 | 15 => 97 | 16 => 98 | 17 => 99 | 18 => 100 | 30 => 107 | 31 => 108 | 32 => 109 | 33 => 110 | 34 => 111 | 35 => 112 | 40 => 113 | n => n, fun | 23 => 58 | 25 => 3 | 3 => 3 | 32 => 189 | 22 => 58 | 0 => 0 | 44 => 205 | 46 => 28 | 4 => 4 | 36 => 197 | 35 => 196 | 41 => 202 | 5 => 5 | 9 => 9 | 53 => 216 | 57 => 220 | 63 => 222 | 64 => 223 | n => n, fun | n => n⟩
theorem Tryd.sortA : Go.Proofs.SlLaysM.n5 Tryd.prog Tryd.sortA_ren := {
  mixed := by kernel_rfl
  f5 := ⟨ "slices.Sort[[]int,int]", by decide, Tryd.func72.trans (congrArg some (by kernel_rfl))⟩
  f7 := ⟨ "slices.pdqsortOrdered[int]", by decide, Tryd.func83.trans (congrArg some (by kernel_rfl))⟩
  f8 := Tryd.func84.trans (congrArg some (by kernel_rfl))
  f10 := ⟨ "slices.insertionSortOrdered[int]", by decide, Tryd.func92.trans (congrArg some (by kernel_rfl))⟩
  f11 := ⟨ "slices.heapSortOrdered[int]", by decide, Tryd.func93.trans (congrArg some (by kernel_rfl))⟩
  f12 := ⟨ "slices.breakPatternsOrdered[int]", by decide, Tryd.func94.trans (congrArg some (by kernel_rfl))⟩
  f13 := ⟨ "slices.choosePivotOrdered[int]", by decide, Tryd.func95.trans (congrArg some (by kernel_rfl))⟩
  f14 := ⟨ "slices.reverseRangeOrdered[int]", by decide, Tryd.func96.trans (congrArg some (by kernel_rfl))⟩
  f15 := ⟨ "slices.partialInsertionSortOrdered[int]", by decide, Tryd.func97.trans (congrArg some (by kernel_rfl))⟩
  f16 := ⟨ "cmp.Less[int]", by decide, Tryd.func98.trans (congrArg some (by kernel_rfl))⟩
  f17 := ⟨ "slices.partitionEqualOrdered[int]", by decide, Tryd.func99.trans (congrArg some (by kernel_rfl))⟩
  f18 := ⟨ "slices.partitionOrdered[int]", by decide, Tryd.func100.trans (congrArg some (by kernel_rfl))⟩
  f19 := Tryd.func101.trans (congrArg some (by kernel_rfl))
  f20 := Tryd.func102.trans (congrArg some (by kernel_rfl))
  f30 := ⟨ "slices.siftDownOrdered[int]", by decide, Tryd.func107.trans (congrArg some (by kernel_rfl))⟩
  f31 := Tryd.func108.trans (congrArg some (by kernel_rfl))
  f32 := Tryd.func109.trans (congrArg some (by kernel_rfl))
  f33 := ⟨ "slices.medianAdjacentOrdered[int]", by decide, Tryd.func110.trans (congrArg some (by kernel_rfl))⟩
  f34 := ⟨ "slices.medianOrdered[int]", by decide, Tryd.func111.trans (congrArg some (by kernel_rfl))⟩
  f35 := ⟨ "cmp.isNaN[int]", by decide, Tryd.func112.trans (congrArg some (by kernel_rfl))⟩
  f40 := ⟨ "slices.order2Ordered[int]", by decide, Tryd.func113.trans (congrArg some (by kernel_rfl))⟩
  t0 := Tryd.underlying0
  a0 := Tryd.isAgg0
  z0 := Tryd.sizeOf0
  v0 := Tryd.zeroValue0
  t3 := Tryd.underlying3
  a3 := Tryd.isAgg3
  z3 := Tryd.sizeOf3
  v3 := Tryd.zeroValue3
  t4 := Tryd.underlying4
  a4 := Tryd.isAgg4
  z4 := Tryd.sizeOf4
  v4 := Tryd.zeroValue4
  t5 := Tryd.underlying5
  a5 := Tryd.isAgg5
  z5 := Tryd.sizeOf5
  v5 := Tryd.zeroValue5
  t9 := Tryd.underlying9
  a9 := Tryd.isAgg9
  z9 := Tryd.sizeOf9
  v9 := Tryd.zeroValue9
  t22 := Tryd.underlying58
  a22 := Tryd.isAgg58
  z22 := Tryd.sizeOf58
  v22 := Tryd.zeroValue58
  t23 := Tryd.underlying58
  a23 := Tryd.isAgg58
  z23 := Tryd.sizeOf58
  v23 := Tryd.zeroValue58
  t25 := Tryd.underlying3
  a25 := Tryd.isAgg3
  z25 := Tryd.sizeOf3
  v25 := Tryd.zeroValue3
  t32 := Tryd.underlying189
  a32 := Tryd.isAgg189
  z32 := Tryd.sizeOf189
  v32 := Tryd.zeroValue189
  t35 := Tryd.underlying196
  a35 := Tryd.isAgg196
  z35 := Tryd.sizeOf196
  v35 := Tryd.zeroValue196
  t36 := Tryd.underlying197
  a36 := Tryd.isAgg197
  z36 := Tryd.sizeOf197
  v36 := Tryd.zeroValue197
  t41 := Tryd.underlying202
  a41 := Tryd.isAgg202
  z41 := Tryd.sizeOf202
  v41 := Tryd.zeroValue202
  t44 := Tryd.underlying205
  a44 := Tryd.isAgg205
  z44 := Tryd.sizeOf205
  v44 := Tryd.zeroValue205
  t46 := Tryd.underlying28
  a46 := Tryd.isAgg28
  z46 := Tryd.sizeOf28
  v46 := Tryd.zeroValue28
  t53 := Tryd.underlying216
  a53 := Tryd.isAgg216
  z53 := Tryd.sizeOf216
  v53 := Tryd.zeroValue216
  t57 := Tryd.underlying220
  a57 := Tryd.isAgg220
  z57 := Tryd.sizeOf220
  v57 := Tryd.zeroValue220
  t63 := Tryd.underlying222
  a63 := Tryd.isAgg222
  z63 := Tryd.sizeOf222
  v63 := Tryd.zeroValue222
  t64 := Tryd.underlying223
  a64 := Tryd.isAgg223
  z64 := Tryd.sizeOf223
  v64 := Tryd.zeroValue223 }
end Go.Proofs
set_option maxRecDepth 100000
namespace Go.Vx.L42
open Go Go.Proofs Go.RowKit Go.Maps Go.Sort Go.Shelf
theorem c75 (m : Nat) : AnyZI.SortsIn Tryd.prog Tryd.sortedA_ren Fence.wide m :=
  ⟨fun blk off cap ss W hH hblk hsz => callsIn_wide.2 (AnyM.slices_Sort_int Tryd.sortA blk off cap ss W hH hblk hsz),
   fun p cap W => callsIn_wide.2 (AnyM.slices_Sort_int_none Tryd.sortA p cap W)⟩
theorem b32 (Bm b nn : Nat) (D0 : DataW Unit) (w : World) (hBm : Bm < w.heap.size) (hcell : w.cell? ⟨Bm, 0, none⟩ = some (.map (some b))) (hown : w.ownsMap Tryd.prog 3 c8g b nn D0) (hmax : Maps.size D0 <= maxLen) (hbytes : Maps.size D0 * 8 <= 140737488355328) :
    Calls Tryd.prog 70 #[.func (.func 82) #[] #[.pointer (some ⟨Bm, 0, none⟩)]] w fun e w' => ∃ (v : Value) (ss : List Int), e = .returned v /\ ss.Perm (intKeys D0) /\
      w'.ownsRow w.heap.size 3 1 v ss.length ((ss.mergeSort (fun x y => decide (x <= y))).map encZ) /\ (v = .slice none 0 0 ↔ ss = []) /\ Below w.heap.size w w' := by
  have hseq : SeqGives Fence.wide 2 Tryd.prog 82 #[.pointer (some ⟨Bm, 0, none⟩)] encZ (fun ss => ss.Perm (intKeys D0)) (Maps.size D0) w :=
    AnyZI.keys_gives (ρ := Tryd.keysA_ren) { Tryd.keysA with } Fence.wide _ trivial rfl (by omega) Bm b nn D0 w hBm hcell hown
  have cS := AnyZI.sorted_in Tryd.sortedA Fence.wide 5 trivial trivial trivial trivial rfl (by omega) (c75 _) (enters_of Tryd.func72 (by kernel_rfl) rfl) 82 #[.pointer (some ⟨Bm, 0, none⟩)] trivial (enters_of Tryd.func82 (by kernel_rfl) rfl) _ _ hmax hbytes _ hseq
  change CallsIn _ _ Tryd.prog 70 _ _ _ at cS
  exact callsIn_wide.1 cS
theorem b9q (ks : List (List Int)) (c : List Int -> AV) (hwf : ∀ k ∈ ks, -9223372036854775808 <= k.headD 0 /\ k.headD 0 <= 9223372036854775807) (hlen : ks.length <= 1000000) :
    Runs Tryd.prog 70 [.fn (.func 82) [.ptr 0 1 0 0]] [.var [.map 1], .map none ks c] (Det (.sl 2 1 0 ks.length none) [.var [.map 1], .map none ks c, .arr true 3 1 ks.length (b52 (a9x ks))]) :=
  b2n Tryd.call70 (Tab.get_ok a1a (t := 3) rfl |> fun h => b6i h rfl) b32 ks c hwf hlen
end Go.Vx.L42
set_option maxRecDepth 100000
namespace Go.Vx.L42
open Go Go.Proofs
def pkS (a : Int) (e : Ed) (ks : List (List Int)) : List (List Int) :=
 if e.b = a then addKey (if e.a = a then addKey ks [e.pa] else ks) [e.pb] else (if e.a = a then addKey ks [e.pa] else ks)
def pk (a : Int) : List Ed -> List (List Int) -> List (List Int)
 | [], ks => ks
 | e :: r, ks => pk a r (pkS a e ks)
theorem c6i : Runs Tryd.prog 71 [.map 0] [.gone] (Det (.fn (.func 82) [.ptr 1 1 0 0]) [.gone, .var [.map 0]]) := by
 refine Runs.mk a1a Tryd.call71 Tryd.func71 rfl Tryd.ntmps71 Tryd.results71 rfl ?_
 (repeat' (first
  | refine SP ?_
  | (apply a04 [some 0, some 1]; (focus (iterate 2 (all_goals (repeat' (first | exact a0x rfl | exact a0c | exact trivial | refine SP ?_ | refine And.intro ?_ ?_ | refine a0b ?_ ?_ | refine a2z ?_ | refine a0n ?_ | exact a0d rfl rfl ))))); any_goals (apply a0h; rfl))
  ))
theorem c0n (n : Int) (l : List Ed) (cap : Option Nat) (hl : l.length <= maxLen) (a : Int) (h : hasB n l a = true)
  (hwf : ∀ k ∈ pk a l [], -9223372036854775808 <= k.headD 0 /\ k.headD 0 <= 9223372036854775807) (hlen : (pk a l []).length <= 1000000) :
  Runs Tryd.prog 45 [gA n l cap, .val (.int .i64 a)] [gB l] (Det (.sl 1 1 0 (pk a l []).length none) [gB l, .arr true 3 1 (pk a l []).length (b52 (a9x (pk a l [])))]) := by
 have hmx : maxLen = 9223372036854775807 := by decide
 have h1 := b85 n l cap hl a
 rw [h] at h1
 refine Runs.mk a1a Tryd.call45 Tryd.func45 rfl Tryd.ntmps45 Tryd.results45 rfl ?_
 (repeat' (first
  | refine SP ?_
  | (apply a0g <;> intro hb <;> (try simp only [nS, nT, eq_self, reduceCtorEq] at hb))
  | refine a0l ?_
  | ((first | apply a1y (h1) ); (focus (iterate 2 (all_goals (repeat' (first | exact a0c | exact trivial | refine SP ?_ | refine And.intro ?_ ?_ | refine a0b ?_ ?_ | refine a0o ?_ | exact a0i rfl rfl rfl | exact a0a _ _ | exact a0f rfl rfl rfl ))))); (try (any_goals fail)))
  ))
 refine a00 (σ := Nat × List (List Int)) (fun x => x.1 <= l.length /\ pk a (l.drop x.1) x.2 = pk a l []) (fun x => ⟨[(1, .val (.int .i64 a)), (5, .map 1), (14, .sl 0 4 0 l.length cap), (15, .val (.int .i64 l.length)), (16, .val (.int .i64 x.1))], [gB l, .map none x.2 (fun _ => .val (.bool true))]⟩) (fun x => l.length - x.1) ((0, [])) ?_ ?_ ?_
 ·simp
 ·(apply a0t [some 0, some 2]; (focus (iterate 2 (all_goals (repeat' (first | exact a0x rfl | refine map_mk ?_ ?_ | exact trivial | refine SP ?_ | refine And.intro ?_ ?_ | exact a0i rfl rfl rfl | exact a0a _ _ | exact a0f rfl rfl rfl | with_reducible rfl ))))); any_goals (apply a0h; rfl))
  all_goals (try (first | (intro x hx; simp at hx)))
 rintro ⟨k, ks⟩ ⟨hk, ht⟩
 simp only at hk ht
 have hd := drop_cons l k ed0
 (repeat' (first
  | refine SP ?_
  | (apply a0g <;> intro hb <;> (try simp only [nS, nT, eq_self, reduceCtorEq] at hb))
  | refine a0l ?_
  | refine OB ?_
  | (apply a0m (Subtype.mk (k + 1, pkS a (l.getD k ed0) ks) _); (focus (apply a0t [some 0, some 1]; (focus (iterate 2 (all_goals (repeat' (first | exact a0x rfl | refine c2w ?_ | refine b6b ?_ | refine map_mk ?_ ?_ | exact trivial | refine SP ?_ | refine And.intro ?_ ?_ | exact a0i rfl rfl rfl | exact a0a _ _ | exact a0f rfl rfl rfl | ((refine a0r ?_); first | with_reducible rfl | omega | ((try simp only [wS]); omega) | rfl) ))))); any_goals (apply a0h; rfl))); (all_goals (try (first | (simp only; omega)))))
  ))
 all_goals (try simp only [Nat.zero_add, Int.toNat_natCast] at *)
 all_goals (try (simp only [pkS]; simp only [*, if_true, if_false]; done))
 all_goals (try (rw [<- ht, hd (by omega)]; rfl))
 ·intro x hx
  simp only [b1x]
  cases (x == [(l.getD k ed0).pb])
  ·cases (x == [(l.getD k ed0).pa]) <;> rfl
  ·rfl
 ·have e : ks = pk a l [] := by rw [<- ht, List.drop_of_length_le (by omega)]; rfl
  subst e
  have hso := b9q (pk a l []) (fun _ => .val (.bool true)) hwf hlen
  (repeat' (first
  | refine SP ?_
  | ((first | apply a1y (c6i) ); (focus (iterate 2 (all_goals (repeat' (first | exact a0x rfl | exact a0c | exact trivial | refine SP ?_ | refine And.intro ?_ ?_ | refine a0b ?_ ?_ ))))); (try (any_goals fail)))
  | ((first | apply call2 (hso) ); (focus (iterate 2 (all_goals (repeat' (first | exact a0x rfl | exact b6b rfl | exact a0c | exact trivial | refine SP ?_ | refine And.intro ?_ ?_ | refine a0b ?_ ?_ | refine a2z ?_ | refine a0n ?_ | exact a0d rfl rfl ))))); (try any_goals (apply a0k; rfl)))
  | (apply a04 [some 0, some 3]; (focus (iterate 2 (all_goals (repeat' (first | exact trivial | refine SP ?_ | refine And.intro ?_ ?_ | exact a0i rfl rfl rfl | exact a0f rfl rfl rfl | exact a06 rfl rfl rfl ))))); any_goals (apply a0h; rfl))
  ))
end Go.Vx.L42
set_option maxRecDepth 100000
namespace Go.Vx.L42
open Go Go.Proofs
theorem c50 (a : Int) (e : Ed) (ks : List (List Int)) (k : List Int) : k ∈ pkS a e ks ↔ k ∈ ks \/ (e.a = a /\ k = [e.pa]) \/ (e.b = a /\ k = [e.pb]) := by
 have add : ∀ (q : List (List Int)) (z : List Int), k ∈ addKey q z ↔ k ∈ q \/ k = z := fun q z => by
  unfold addKey
  cases h : q.contains z with
  | true =>
   rw [cond_true]
   constructor
   ·exact .inl
   ·rintro (h1 | rfl)
    ·exact h1
    ·exact List.contains_iff_mem.1 h
  | false => rw [cond_false, List.mem_append, List.mem_singleton]
 unfold pkS
 by_cases h1 : e.a = a <;> by_cases h2 : e.b = a <;> simp [h1, h2, add, or_assoc]
theorem b9u (a : Int) (e : Ed) (ks : List (List Int)) (h : ks.Nodup) : (pkS a e ks).Nodup := by
 have add : ∀ (q : List (List Int)) (z : List Int), q.Nodup -> (addKey q z).Nodup := fun q z hq => by
  unfold addKey
  cases h : q.contains z with
  | true => exact hq
  | false =>
   rw [cond_false, List.nodup_append]
   refine ⟨hq, by simp, fun x hx y hy hxy => ?_⟩
   rw [List.mem_singleton] at hy
   subst hxy hy
   rw [List.contains_iff_mem.2 hx] at h; cases h
 unfold pkS
 split <;> split <;> first | exact add _ _ (add _ _ h) | exact add _ _ h | exact h
theorem c52 (a : Int) (e : Ed) (ks : List (List Int)) : (pkS a e ks).length <= ks.length + 2 := by
 have add : ∀ (q : List (List Int)) (z : List Int), (addKey q z).length <= q.length + 1 := fun q z => by
  unfold addKey
  cases q.contains z <;> simp
 unfold pkS
 split <;> split
 ·have h1 := add (addKey ks [e.pa]) [e.pb]
  have h2 := add ks [e.pa]
  omega
 ·have h2 := add ks [e.pb]; omega
 ·have h2 := add ks [e.pa]; omega
 ·omega
theorem b1n (a : Int) (k : List Int) : ∀ (l : List Ed) (ks : List (List Int)), k ∈ pk a l ks ↔ k ∈ ks \/ ∃ e ∈ l, (e.a = a /\ k = [e.pa]) \/ (e.b = a /\ k = [e.pb])
 | [], ks => by simp [pk]
 | e :: r, ks => by simp only [pk, b1n a k r, c50, List.mem_cons, exists_eq_or_imp, or_assoc]
theorem b57 (a : Int) : ∀ (l : List Ed) (ks : List (List Int)), ks.Nodup -> (pk a l ks).Nodup
 | [], _, h => h
 | e :: r, ks, h => b57 a r _ (b9u a e ks h)
theorem c3r (a : Int) : ∀ (l : List Ed) (ks : List (List Int)), (pk a l ks).length <= ks.length + 2 * l.length
 | [], ks => by simp [pk]
 | e :: r, ks => by
  have h1 := c3r a r (pkS a e ks)
  have h2 := c52 a e ks
  simp only [pk, List.length_cons]; omega
theorem a7s (a p : Int) : ∀ l : List Ed, (a4a l a p).2.2 = true ↔ ∃ e ∈ l, (e.a = a /\ e.pa = p) \/ (e.b = a /\ e.pb = p)
 | [] => by simp [a4a]
 | e :: r => by
  unfold a4a
  split
  ·rename_i h; simp only [true_iff]; exact ⟨e, List.mem_cons_self .., .inl h⟩
  ·rename_i h
   split
   ·rename_i h2; simp only [true_iff]; exact ⟨e, List.mem_cons_self .., .inr h2⟩
   ·rename_i h2
    rw [a7s a p r]
    constructor
    ·rintro ⟨x, hx, q⟩; exact ⟨x, List.mem_cons_of_mem _ hx, q⟩
    ·rintro ⟨x, hx, q⟩
     rcases List.mem_cons.1 hx with rfl | hx
     ·rcases q with q | q
      ·exact absurd q h
      ·exact absurd q h2
     ·exact ⟨x, hx, q⟩
theorem b1z (n : Int) : ∀ (l : List Ed) (seen : List (List Int)), ckL n l seen = 0 -> ∀ e ∈ l, b1c n e.a e.pa = true /\ b1c n e.b e.pb = true
 | [], _, _, e, he => by cases he
 | x :: r, seen, h, e, he => by
  unfold ckL at h
  split at h
  ·cases h
  ·rename_i h1
   split at h
   ·cases h
   ·split at h
    ·cases h
    ·rcases List.mem_cons.1 he with rfl | he
     ·simpa using h1
     ·exact b1z n r _ h e he
theorem a8h {n : Int} {l : List Ed} {a : Int} (h : hasB n l a = true) : l.length <= 64 /\ (1 <= n /\ n <= 24) /\ (0 <= a /\ a < n) /\ ∀ e ∈ l, b1c n e.a e.pa = true /\ b1c n e.b e.pb = true := by
 simp only [hasB, decide_eq_true_eq] at h
 obtain ⟨h1, h2, h3⟩ := h
 unfold ckC at h1
 split at h1
 ·cases h1
 ·split at h1
  ·cases h1
  ·exact ⟨by omega, by omega, ⟨h2, h3⟩, b1z n l _ h1⟩
def rpL (n : Int) (l : List Ed) (a : Int) (k : Nat) : List Int := ((List.range k).map fun i => ((i : Nat) : Int) + 1).filter fun p => (a1r n l a p).2.2
theorem b5e (n : Int) (l : List Ed) (a : Int) (p : Int) : p ∈ rpL n l a 8 ↔ (1 <= p /\ p <= 8) /\ (a1r n l a p).2.2 = true := by
 unfold rpL
 rw [List.mem_filter, List.mem_map]
 refine and_congr ⟨?_, ?_⟩ Iff.rfl
 ·rintro ⟨i, hi, rfl⟩; rw [List.mem_range] at hi; omega
 ·intro h; exact ⟨(p - 1).toNat, List.mem_range.2 (by omega), by omega⟩
end Go.Vx.L42
set_option maxRecDepth 100000
namespace Go.Vx.L42
open Go Go.Proofs Go.Sort Go.Maps Go.RowKit Go.WideShapes
theorem c1i {n : Int} {l : List Ed} {a : Int} (h : hasB n l a = true) : a9x (pk a l []) = rpL n l a 8 := by
 obtain ⟨h1, h2, h3, h4⟩ := a8h h
 have hp : ∀ p, (a1r n l a p).2.2 = (a4a l a p).2.2 := fun p => by unfold a1r; rw [if_pos h]
 have hform : ∀ k ∈ pk a l [], ∃ p, k = [p] := fun k hk => by
  rw [b1n] at hk
  rcases hk with hk | ⟨e, _, ⟨_, rfl⟩ | ⟨_, rfl⟩⟩
  ·cases hk
  ·exact ⟨_, rfl⟩
  ·exact ⟨_, rfl⟩
 have hnd : ((pk a l []).map fun k => k.headD 0).Nodup := by
  have q : (pk a l []).Nodup := b57 a l [] (by simp)
  unfold List.Nodup at q ⊢
  rw [List.pairwise_map]
  refine List.Pairwise.imp_of_mem ?_ q
  intro x y hx hy hxy he
  obtain ⟨p, rfl⟩ := hform x hx
  obtain ⟨p', rfl⟩ := hform y hy
  exact hxy (by simp at he; rw [he])
 have hsorted : (rpL n l a 8).Pairwise (fun x y => decide (x <= y) = true) := by
  unfold rpL
  exact List.Pairwise.filter _ (by decide)
 have hnd2 : (rpL n l a 8).Nodup := by
  unfold rpL
  exact List.Pairwise.filter _ (by decide)
 have hperm : ((pk a l []).map fun k => k.headD 0).Perm (rpL n l a 8) := by
  rw [List.perm_ext_iff_of_nodup hnd hnd2]
  intro p
  rw [b5e, hp, a7s, List.mem_map]
  constructor
  ·rintro ⟨k, hk, rfl⟩
   rw [b1n] at hk
   rcases hk with hk | ⟨e, he, hk⟩
   ·cases hk
   ·have h5 := h4 e he
    simp only [b1c, decide_eq_true_eq] at h5
    rcases hk with ⟨q, rfl⟩ | ⟨q, rfl⟩
    ·exact ⟨⟨h5.1.2.2.1, h5.1.2.2.2⟩, e, he, .inl ⟨q, rfl⟩⟩
    ·exact ⟨⟨h5.2.2.2.1, h5.2.2.2.2⟩, e, he, .inr ⟨q, rfl⟩⟩
  ·rintro ⟨_, e, he, ⟨q, rfl⟩ | ⟨q, rfl⟩⟩
   ·exact ⟨[e.pa], (b1n ..).2 (.inr ⟨e, he, .inl ⟨q, rfl⟩⟩), rfl⟩
   ·exact ⟨[e.pb], (b1n ..).2 (.inr ⟨e, he, .inr ⟨q, rfl⟩⟩), rfl⟩
 have e := mergeSort_of_perm_i hperm
 unfold a9x
 rw [e, List.mergeSort_of_pairwise hsorted]
theorem c2d (n : Int) (l : List Ed) (cap : Option Nat) (hl : l.length <= maxLen) (a : Int) (h : hasB n l a = true) :
  Runs Tryd.prog 45 [gA n l cap, .val (.int .i64 a)] [gB l] (Det (.sl 1 1 0 (rpL n l a 8).length none) [gB l, iB true (rpL n l a 8)]) := by
 obtain ⟨h1, h2, h3, h4⟩ := a8h h
 have e := c1i h
 have hlen := c3r a l []
 have r := c0n n l cap hl a h (fun k hk => by
  rw [b1n] at hk
  rcases hk with hk | ⟨e, he, hk⟩
  ·cases hk
  ·have h5 := h4 e he
   simp only [b1c, decide_eq_true_eq] at h5
   rcases hk with ⟨q, rfl⟩ | ⟨q, rfl⟩ <;> simp only [List.headD_cons] <;> omega) (by simp only [List.length_nil] at hlen; omega)
 have e2 : (pk a l []).length = (rpL n l a 8).length := by rw [<- e, b36]
 rw [e, e2] at r
 exact r
end Go.Vx.L42

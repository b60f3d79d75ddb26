/- Lemmas of a small executor for the model, and contracts of functions, used for the law that this claim proves. No condition. -/
import Derived.Test.YtodbfpjjahpahaaGreatDoorEG4
import Derived.Test.YtodbfpjjahpahaaGreatDoorESk1
import Derived.Shelf.SlIterI.Nil
import Derived.Shelf.SortM.Plain
import Derived.Shelf.SortM.SortNone
import Derived.Shelf.LaySoft
import Derived.Ground.GgzProg
import Derived.Ground.SlgmProg
import Derived.Test.YtodbfpjjahpahaaGreatDoorEW3
set_option linter.unusedSimpArgs false
set_option linter.unusedVariables false
namespace Go.Proofs
open Go.RowKit Go.Maps Go.Sort Go.Shelf
def Tryz.keysA_ren : Go.Shelf.Ren := ⟨fun | 7 => 115 | 10 => 146 | n => n, fun | 23 => 188 | 26 => 3 | 3 => 4 | 28 => 191 | 0 => 0 | 27 => 190 | 33 => 73 | 4 => 4 | n => n, fun | n => n⟩
theorem Tryz.keysA : Go.Proofs.SlLaysZI.n7 Tryz.prog Tryz.keysA_ren := {
  mixed := by kernel_rfl
  f7 := ⟨ "maps.Keys[map[int]bool,int,bool]", by decide, Tryz.func115.trans (congrArg some (by kernel_rfl))⟩
  f10 := ⟨ "maps.Keys[map[int]bool,int,bool]$1", by decide, Tryz.func146.trans (congrArg some (by kernel_rfl))⟩
  t0 := Tryz.underlying0
  a0 := Tryz.isAgg0
  z0 := Tryz.sizeOf0
  v0 := Tryz.zeroValue0
  t4 := Tryz.underlying4
  a4 := Tryz.isAgg4
  z4 := Tryz.sizeOf4
  v4 := Tryz.zeroValue4
  t23 := Tryz.underlying188
  a23 := Tryz.isAgg188
  z23 := Tryz.sizeOf188
  v23 := Tryz.zeroValue188
  t26 := Tryz.underlying3
  a26 := Tryz.isAgg3
  z26 := Tryz.sizeOf3
  v26 := Tryz.zeroValue3
  t27 := Tryz.underlying190
  a27 := Tryz.isAgg190
  z27 := Tryz.sizeOf190
  v27 := Tryz.zeroValue190
  t28 := Tryz.underlying191
  a28 := Tryz.isAgg191
  z28 := Tryz.sizeOf191
  v28 := Tryz.zeroValue191
  t33 := Tryz.underlying73
  a33 := Tryz.isAgg73
  z33 := Tryz.sizeOf73
  v33 := Tryz.zeroValue73 }
def Tryz.sortedA_ren : Go.Shelf.Ren := ⟨fun | 6 => 114 | 8 => 145 | 9 => 116 | 11 => 174 | 13 => 148 | 12 => 147 | 23 => 184 | 24 => 185 | 14 => 175 | 15 => 176 | 16 => 177 | 17 => 178 | 18 => 179 | 19 => 180 | 20 => 181 | 21 => 182 | 22 => 183 | 25 => 199 | 26 => 200 | 27 => 201 | 28 => 202 | 29 => 203 | 30 => 204 | 31 => 205 | n => n, fun | 26 => 3 | 28 => 191 | 24 => 29 | 0 => 0 | 3 => 3 | 37 => 74 | 48 => 251 | 50 => 86 | 4 => 4 | 40 => 244 | 39 => 243 | 45 => 126 | 5 => 5 | 9 => 9 | 51 => 267 | 55 => 271 | 57 => 274 | 58 => 275 | 33 => 73 | n => n, fun | n => n⟩
theorem Tryz.sortedA : Go.Proofs.SlLaysZI.n6 Tryz.prog Tryz.sortedA_ren := {
  mixed := by kernel_rfl
  f6 := ⟨ "slices.Sorted[int]", by decide, Tryz.func114.trans (congrArg some (by kernel_rfl))⟩
  f8 := ⟨ "slices.Collect[int]", by decide, Tryz.func145.trans (congrArg some (by kernel_rfl))⟩
  f11 := ⟨ "slices.AppendSeq[[]int,int]", by decide, Tryz.func174.trans (congrArg some (by kernel_rfl))⟩
  t0 := Tryz.underlying0
  a0 := Tryz.isAgg0
  z0 := Tryz.sizeOf0
  v0 := Tryz.zeroValue0
  t24 := Tryz.underlying29
  a24 := Tryz.isAgg29
  z24 := Tryz.sizeOf29
  v24 := Tryz.zeroValue29
  t26 := Tryz.underlying3
  a26 := Tryz.isAgg3
  z26 := Tryz.sizeOf3
  v26 := Tryz.zeroValue3
  t28 := Tryz.underlying191
  a28 := Tryz.isAgg191
  z28 := Tryz.sizeOf191
  v28 := Tryz.zeroValue191
  i26 := by kernel_rfl }
def Tryz.sortA_ren : Go.Shelf.Ren := ⟨fun | 5 => 116 | 8 => 148 | 7 => 147 | 19 => 184 | 20 => 185 | 10 => 175 | 11 => 176 | 12 => 177 | 13 => 178 | 14 => 179 | 15 => 180 | 16 => 181 | 17 => 182 | 18 => 183 | 30 => 199 | 31 => 200 | 32 => 201 | 33 => 202 | 34 => 203 | 35 => 204 | 40 => 205 | n => n, fun | 23 => 29 | 25 => 3 | 3 => 3 | 32 => 74 | 22 => 29 | 0 => 0 | 44 => 251 | 46 => 86 | 4 => 4 | 36 => 244 | 35 => 243 | 41 => 126 | 5 => 5 | 9 => 9 | 53 => 267 | 57 => 271 | 63 => 274 | 64 => 275 | n => n, fun | n => n⟩
theorem Tryz.sortA : Go.Proofs.SlLaysM.n5 Tryz.prog Tryz.sortA_ren := {
  mixed := by kernel_rfl
  f5 := ⟨ "slices.Sort[[]int,int]", by decide, Tryz.func116.trans (congrArg some (by kernel_rfl))⟩
  f7 := ⟨ "slices.pdqsortOrdered[int]", by decide, Tryz.func147.trans (congrArg some (by kernel_rfl))⟩
  f8 := Tryz.func148.trans (congrArg some (by kernel_rfl))
  f10 := ⟨ "slices.insertionSortOrdered[int]", by decide, Tryz.func175.trans (congrArg some (by kernel_rfl))⟩
  f11 := ⟨ "slices.heapSortOrdered[int]", by decide, Tryz.func176.trans (congrArg some (by kernel_rfl))⟩
  f12 := ⟨ "slices.breakPatternsOrdered[int]", by decide, Tryz.func177.trans (congrArg some (by kernel_rfl))⟩
  f13 := ⟨ "slices.choosePivotOrdered[int]", by decide, Tryz.func178.trans (congrArg some (by kernel_rfl))⟩
  f14 := ⟨ "slices.reverseRangeOrdered[int]", by decide, Tryz.func179.trans (congrArg some (by kernel_rfl))⟩
  f15 := ⟨ "slices.partialInsertionSortOrdered[int]", by decide, Tryz.func180.trans (congrArg some (by kernel_rfl))⟩
  f16 := ⟨ "cmp.Less[int]", by decide, Tryz.func181.trans (congrArg some (by kernel_rfl))⟩
  f17 := ⟨ "slices.partitionEqualOrdered[int]", by decide, Tryz.func182.trans (congrArg some (by kernel_rfl))⟩
  f18 := ⟨ "slices.partitionOrdered[int]", by decide, Tryz.func183.trans (congrArg some (by kernel_rfl))⟩
  f19 := Tryz.func184.trans (congrArg some (by kernel_rfl))
  f20 := Tryz.func185.trans (congrArg some (by kernel_rfl))
  f30 := ⟨ "slices.siftDownOrdered[int]", by decide, Tryz.func199.trans (congrArg some (by kernel_rfl))⟩
  f31 := Tryz.func200.trans (congrArg some (by kernel_rfl))
  f32 := Tryz.func201.trans (congrArg some (by kernel_rfl))
  f33 := ⟨ "slices.medianAdjacentOrdered[int]", by decide, Tryz.func202.trans (congrArg some (by kernel_rfl))⟩
  f34 := ⟨ "slices.medianOrdered[int]", by decide, Tryz.func203.trans (congrArg some (by kernel_rfl))⟩
  f35 := ⟨ "cmp.isNaN[int]", by decide, Tryz.func204.trans (congrArg some (by kernel_rfl))⟩
  f40 := ⟨ "slices.order2Ordered[int]", by decide, Tryz.func205.trans (congrArg some (by kernel_rfl))⟩
  t0 := Tryz.underlying0
  a0 := Tryz.isAgg0
  z0 := Tryz.sizeOf0
  v0 := Tryz.zeroValue0
  t3 := Tryz.underlying3
  a3 := Tryz.isAgg3
  z3 := Tryz.sizeOf3
  v3 := Tryz.zeroValue3
  t4 := Tryz.underlying4
  a4 := Tryz.isAgg4
  z4 := Tryz.sizeOf4
  v4 := Tryz.zeroValue4
  t5 := Tryz.underlying5
  a5 := Tryz.isAgg5
  z5 := Tryz.sizeOf5
  v5 := Tryz.zeroValue5
  t9 := Tryz.underlying9
  a9 := Tryz.isAgg9
  z9 := Tryz.sizeOf9
  v9 := Tryz.zeroValue9
  t22 := Tryz.underlying29
  a22 := Tryz.isAgg29
  z22 := Tryz.sizeOf29
  v22 := Tryz.zeroValue29
  t23 := Tryz.underlying29
  a23 := Tryz.isAgg29
  z23 := Tryz.sizeOf29
  v23 := Tryz.zeroValue29
  t25 := Tryz.underlying3
  a25 := Tryz.isAgg3
  z25 := Tryz.sizeOf3
  v25 := Tryz.zeroValue3
  t32 := Tryz.underlying74
  a32 := Tryz.isAgg74
  z32 := Tryz.sizeOf74
  v32 := Tryz.zeroValue74
  t35 := Tryz.underlying243
  a35 := Tryz.isAgg243
  z35 := Tryz.sizeOf243
  v35 := Tryz.zeroValue243
  t36 := Tryz.underlying244
  a36 := Tryz.isAgg244
  z36 := Tryz.sizeOf244
  v36 := Tryz.zeroValue244
  t41 := Tryz.underlying126
  a41 := Tryz.isAgg126
  z41 := Tryz.sizeOf126
  v41 := Tryz.zeroValue126
  t44 := Tryz.underlying251
  a44 := Tryz.isAgg251
  z44 := Tryz.sizeOf251
  v44 := Tryz.zeroValue251
  t46 := Tryz.underlying86
  a46 := Tryz.isAgg86
  z46 := Tryz.sizeOf86
  v46 := Tryz.zeroValue86
  t53 := Tryz.underlying267
  a53 := Tryz.isAgg267
  z53 := Tryz.sizeOf267
  v53 := Tryz.zeroValue267
  t57 := Tryz.underlying271
  a57 := Tryz.isAgg271
  z57 := Tryz.sizeOf271
  v57 := Tryz.zeroValue271
  t63 := Tryz.underlying274
  a63 := Tryz.isAgg274
  z63 := Tryz.sizeOf274
  v63 := Tryz.zeroValue274
  t64 := Tryz.underlying275
  a64 := Tryz.isAgg275
  z64 := Tryz.sizeOf275
  v64 := Tryz.zeroValue275 }
end Go.Proofs
set_option maxRecDepth 100000
namespace Go.Vx.L58
open Go Go.Proofs Go.RowKit Go.Maps Go.Sort Go.Shelf
theorem d3a (m : Nat) : AnyZI.SortsIn Tryz.prog Tryz.sortedA_ren Fence.wide m :=
  ⟨fun blk off cap ss W hH hblk hsz => callsIn_wide.2 (AnyM.slices_Sort_int Tryz.sortA blk off cap ss W hH hblk hsz),
   fun p cap W => callsIn_wide.2 (AnyM.slices_Sort_int_none Tryz.sortA p cap W)⟩
theorem b4j (Bm b nn : Nat) (D0 : DataW Unit) (w : World) (hBm : Bm < w.heap.size) (hcell : w.cell? ⟨Bm, 0, none⟩ = some (.map (some b))) (hown : w.ownsMap Tryz.prog 3 d4v b nn D0) (hmax : Maps.size D0 <= maxLen) (hbytes : Maps.size D0 * 8 <= 140737488355328) :
    Calls Tryz.prog 114 #[.func (.func 146) #[] #[.pointer (some ⟨Bm, 0, none⟩)]] w fun e w' => ∃ (v : Value) (ss : List Int), e = .returned v /\ ss.Perm (intKeys D0) /\
      w'.ownsRow w.heap.size 3 1 v ss.length ((ss.mergeSort (fun x y => decide (x <= y))).map encZ) /\ (v = .slice none 0 0 ↔ ss = []) /\ Below w.heap.size w w' := by
  have hseq : SeqGives Fence.wide 2 Tryz.prog 146 #[.pointer (some ⟨Bm, 0, none⟩)] encZ (fun ss => ss.Perm (intKeys D0)) (Maps.size D0) w :=
    AnyZI.keys_gives (ρ := Tryz.keysA_ren) { Tryz.keysA with } Fence.wide _ trivial rfl (by omega) Bm b nn D0 w hBm hcell hown
  have cS := AnyZI.sorted_in Tryz.sortedA Fence.wide 5 trivial trivial trivial trivial rfl (by omega) (d3a _) (enters_of Tryz.func116 (by kernel_rfl) rfl) 146 #[.pointer (some ⟨Bm, 0, none⟩)] trivial (enters_of Tryz.func146 (by kernel_rfl) rfl) _ _ hmax hbytes _ hseq
  change CallsIn _ _ Tryz.prog 114 _ _ _ at cS
  exact callsIn_wide.1 cS
theorem c0w (ks : List (List Int)) (c : List Int -> AV) (hwf : ∀ k ∈ ks, -9223372036854775808 <= k.headD 0 /\ k.headD 0 <= 9223372036854775807) (hlen : ks.length <= 1000000) :
    Runs Tryz.prog 114 [.fn (.func 146) [.ptr 0 1 0 0]] [.var [.map 1], .map none ks c] (Det (.sl 2 1 0 ks.length none) [.var [.map 1], .map none ks c, .arr true 3 1 ks.length (a2v (b0h ks))]) :=
  b3f Tryz.call114 (Tab.get_ok a0k (t := 3) rfl |> fun h => b7z h rfl) b4j ks c hwf hlen
end Go.Vx.L58
set_option maxRecDepth 100000
namespace Go.Vx.L58
open Go Go.Proofs
def pkS (a : Int) (e : Ed) (ks : List (List Int)) : List (List Int) :=
 if e.b = a then addKey (if e.a = a then addKey ks [e.pa] else ks) [e.pb] else (if e.a = a then addKey ks [e.pa] else ks)
def pk (a : Int) : List Ed -> List (List Int) -> List (List Int)
 | [], ks => ks
 | e :: r, ks => pk a r (pkS a e ks)
theorem c87 : Runs Tryz.prog 115 [.map 0] [.gone] (Det (.fn (.func 146) [.ptr 1 1 0 0]) [.gone, .var [.map 0]]) := by
 refine Runs.mk a0k Tryz.call115 Tryz.func115 rfl Tryz.ntmps115 Tryz.results115 rfl ?_
 (repeat' (first
  | refine SP ?_
  | exact RT [some 0, some 1]
  ))
theorem c4m (n : Int) (l : List Ed) (cap : Option Nat) (hl : l.length <= maxLen) (a : Int) (h : hasB n l a = true)
  (hwf : ∀ k ∈ pk a l [], -9223372036854775808 <= k.headD 0 /\ k.headD 0 <= 9223372036854775807) (hlen : (pk a l []).length <= 1000000) :
  Runs Tryz.prog 71 [gA n l cap, .val (.int .i64 a)] [gB l] (Det (.sl 1 1 0 (pk a l []).length none) [gB l, .arr true 3 1 (pk a l []).length (a2v (b0h (pk a l [])))]) := by
 have hmx : maxLen = 9223372036854775807 := by decide
 have h1 := c79 n l cap hl a
 rw [h] at h1
 refine Runs.mk a0k Tryz.call71 Tryz.func71 rfl Tryz.ntmps71 Tryz.results71 rfl ?_
 (repeat' (first
  | refine SP ?_
  | (apply a0a <;> intro hb <;> (try simp only [nS, nT, eq_self, reduceCtorEq] at hb))
  | refine a0c ?_
  | ((first | apply a1z (h1) ); exact AS; (try (any_goals fail)))
  ))
 refine a0p (σ := Nat × List (List Int)) (fun x => x.1 <= l.length /\ pk a (l.drop x.1) x.2 = pk a l []) (fun x => ⟨[(1, .val (.int .i64 a)), (5, .map 1), (14, .sl 0 4 0 l.length cap), (15, .val (.int .i64 l.length)), (16, .val (.int .i64 x.1))], [gB l, .map none x.2 (fun _ => .val (.bool true))]⟩) (fun x => l.length - x.1) ((0, [])) ?_ ?_ ?_
 ·simp
 ·(apply a04 [some 0, some 2]; (focus (iterate 2 (all_goals (repeat' (first | exact a02 rfl | refine map_mk ?_ ?_ | exact trivial | refine SP ?_ | refine And.intro ?_ ?_ | exact a0r rfl rfl rfl | exact a0b _ _ | exact a0j rfl rfl rfl | with_reducible rfl ))))); any_goals (apply a0e; rfl))
  all_goals (try (first | (intro x hx; simp at hx)))
 rintro ⟨k, ks⟩ ⟨hk, ht⟩
 simp only at hk ht
 have hd := drop_cons l k ed0
 (repeat' (first
  | refine SP ?_
  | (apply a0a <;> intro hb <;> (try simp only [nS, nT, eq_self, reduceCtorEq] at hb))
  | refine a0c ?_
  | refine OB ?_
  | (apply a0i (Subtype.mk (k + 1, pkS a (l.getD k ed0) ks) _); (focus (apply a04 [some 0, some 1]; (focus (iterate 2 (all_goals (repeat' (first | exact a02 rfl | refine c7j ?_ | refine b7v ?_ | refine map_mk ?_ ?_ | exact trivial | refine SP ?_ | refine And.intro ?_ ?_ | exact a0r rfl rfl rfl | exact a0b _ _ | exact a0j rfl rfl rfl | ((refine a0f ?_); first | with_reducible rfl | omega | ((try simp only [wS]); omega) | rfl) ))))); any_goals (apply a0e; rfl))); (all_goals (try (first | (simp only; omega)))))
  ))
 all_goals (try simp only [Nat.zero_add, Int.toNat_natCast] at *)
 all_goals (try (simp only [pkS]; simp only [*, if_true, if_false]; done))
 all_goals (try (rw [<- ht, hd (by omega)]; rfl))
 ·intro x hx
  simp only [b1d]
  cases (x == [(l.getD k ed0).pb])
  ·cases (x == [(l.getD k ed0).pa]) <;> rfl
  ·rfl
 ·have e : ks = pk a l [] := by rw [<- ht, List.drop_of_length_le (by omega)]; rfl
  subst e
  have hso := c0w (pk a l []) (fun _ => .val (.bool true)) hwf hlen
  (repeat' (first
  | refine SP ?_
  | ((first | apply a1z (c87) ); exact AS; (try (any_goals fail)))
  | ((first | apply call2 (hso) ); (focus (iterate 2 (all_goals (repeat' (first | exact a02 rfl | exact b7v rfl | exact a0g | exact trivial | refine SP ?_ | refine And.intro ?_ ?_ | refine a0d ?_ ?_ | refine c1a ?_ | refine a09 ?_ | exact a0z rfl rfl ))))); (try any_goals (apply a1j; rfl)))
  | exact RT [some 0, some 3]
  ))
end Go.Vx.L58
set_option maxRecDepth 100000
namespace Go.Vx.L58
open Go Go.Proofs
theorem c83 (a : Int) (e : Ed) (ks : List (List Int)) (k : List Int) : k ∈ pkS a e ks ↔ k ∈ ks \/ (e.a = a /\ k = [e.pa]) \/ (e.b = a /\ k = [e.pb]) := by
 have add : ∀ (q : List (List Int)) (z : List Int), k ∈ addKey q z ↔ k ∈ q \/ k = z := fun q z => by
  unfold addKey
  cases h : q.contains z with
  | true =>
   rw [cond_true]
   constructor
   ·exact .inl
   ·rintro (h1 | rfl)
    ·exact h1
    ·exact List.contains_iff_mem.1 h
  | false => rw [cond_false, List.mem_append, List.mem_singleton]
 unfold pkS
 by_cases h1 : e.a = a <;> by_cases h2 : e.b = a <;> simp [h1, h2, add, or_assoc]
theorem c2r (a : Int) (e : Ed) (ks : List (List Int)) (h : ks.Nodup) : (pkS a e ks).Nodup := by
 have add : ∀ (q : List (List Int)) (z : List Int), q.Nodup -> (addKey q z).Nodup := fun q z hq => by
  unfold addKey
  cases h : q.contains z with
  | true => exact hq
  | false =>
   rw [cond_false, List.nodup_append]
   refine ⟨hq, by simp, fun x hx y hy hxy => ?_⟩
   rw [List.mem_singleton] at hy
   subst hxy hy
   rw [List.contains_iff_mem.2 hx] at h; cases h
 unfold pkS
 split <;> split <;> first | exact add _ _ (add _ _ h) | exact add _ _ h | exact h
theorem d0g (a : Int) (e : Ed) (ks : List (List Int)) : (pkS a e ks).length <= ks.length + 2 := by
 have add : ∀ (q : List (List Int)) (z : List Int), (addKey q z).length <= q.length + 1 := fun q z => by
  unfold addKey
  cases q.contains z <;> simp
 unfold pkS
 split <;> split
 ·have h1 := add (addKey ks [e.pa]) [e.pb]
  have h2 := add ks [e.pa]
  omega
 ·have h2 := add ks [e.pb]; omega
 ·have h2 := add ks [e.pa]; omega
 ·omega
theorem b16 (a : Int) (k : List Int) : ∀ (l : List Ed) (ks : List (List Int)), k ∈ pk a l ks ↔ k ∈ ks \/ ∃ e ∈ l, (e.a = a /\ k = [e.pa]) \/ (e.b = a /\ k = [e.pb])
 | [], ks => by simp [pk]
 | e :: r, ks => by simp only [pk, b16 a k r, c83, List.mem_cons, exists_eq_or_imp, or_assoc]
theorem b8f (a : Int) : ∀ (l : List Ed) (ks : List (List Int)), ks.Nodup -> (pk a l ks).Nodup
 | [], _, h => h
 | e :: r, ks, h => b8f a r _ (c2r a e ks h)
theorem c8m (a : Int) : ∀ (l : List Ed) (ks : List (List Int)), (pk a l ks).length <= ks.length + 2 * l.length
 | [], ks => by simp [pk]
 | e :: r, ks => by
  have h1 := c8m a r (pkS a e ks)
  have h2 := d0g a e ks
  simp only [pk, List.length_cons]; omega
theorem a7q (a p : Int) : ∀ l : List Ed, (a2d l a p).2.2 = true ↔ ∃ e ∈ l, (e.a = a /\ e.pa = p) \/ (e.b = a /\ e.pb = p)
 | [] => by simp [a2d]
 | e :: r => by
  unfold a2d
  split
  ·rename_i h; simp only [true_iff]; exact ⟨e, List.mem_cons_self .., .inl h⟩
  ·rename_i h
   split
   ·rename_i h2; simp only [true_iff]; exact ⟨e, List.mem_cons_self .., .inr h2⟩
   ·rename_i h2
    rw [a7q a p r]
    constructor
    ·rintro ⟨x, hx, q⟩; exact ⟨x, List.mem_cons_of_mem _ hx, q⟩
    ·rintro ⟨x, hx, q⟩
     rcases List.mem_cons.1 hx with rfl | hx
     ·rcases q with q | q
      ·exact absurd q h
      ·exact absurd q h2
     ·exact ⟨x, hx, q⟩
theorem b2a (n : Int) : ∀ (l : List Ed) (seen : List (List Int)), ckL n l seen = 0 -> ∀ e ∈ l, a6r n e.a e.pa = true /\ a6r n e.b e.pb = true
 | [], _, _, e, he => by cases he
 | x :: r, seen, h, e, he => by
  unfold ckL at h
  split at h
  ·cases h
  ·rename_i h1
   split at h
   ·cases h
   ·split at h
    ·cases h
    ·rcases List.mem_cons.1 he with rfl | he
     ·simpa using h1
     ·exact b2a n r _ h e he
theorem a8k {n : Int} {l : List Ed} {a : Int} (h : hasB n l a = true) : l.length <= 64 /\ (1 <= n /\ n <= 24) /\ (0 <= a /\ a < n) /\ ∀ e ∈ l, a6r n e.a e.pa = true /\ a6r n e.b e.pb = true := by
 simp only [hasB, decide_eq_true_eq] at h
 obtain ⟨h1, h2, h3⟩ := h
 unfold ckC at h1
 split at h1
 ·cases h1
 ·split at h1
  ·cases h1
  ·exact ⟨by omega, by omega, ⟨h2, h3⟩, b2a n l _ h1⟩
def rpL (n : Int) (l : List Ed) (a : Int) (k : Nat) : List Int := ((List.range k).map fun i => ((i : Nat) : Int) + 1).filter fun p => (a1h n l a p).2.2
theorem c6a (n : Int) (l : List Ed) (a : Int) (k : Nat) : rpL n l a (k + 1) = rpL n l a k ++ (if (a1h n l a ((k : Int) + 1)).2.2 = true then [(k : Int) + 1] else []) := by
 unfold rpL
 rw [List.range_succ, List.map_append, List.filter_append]
 congr 1
 simp only [List.map_cons, List.map_nil, List.filter_cons, List.filter_nil]
theorem b2f (n : Int) (l : List Ed) (a : Int) (p : Int) : p ∈ rpL n l a 8 ↔ (1 <= p /\ p <= 8) /\ (a1h n l a p).2.2 = true := by
 unfold rpL
 rw [List.mem_filter, List.mem_map]
 refine and_congr ⟨?_, ?_⟩ Iff.rfl
 ·rintro ⟨i, hi, rfl⟩; rw [List.mem_range] at hi; omega
 ·intro h; exact ⟨(p - 1).toNat, List.mem_range.2 (by omega), by omega⟩
theorem c4h (n : Int) (l : List Ed) (a : Int) (k : Nat) : (rpL n l a k).length <= k := by
 unfold rpL
 exact Nat.le_trans (List.length_filter_le ..) (by simp)
end Go.Vx.L58
set_option maxRecDepth 100000
namespace Go.Vx.L58
open Go Go.Proofs Go.Sort Go.Maps Go.RowKit Go.WideShapes
theorem c3i {n : Int} {l : List Ed} {a : Int} (h : hasB n l a = true) : b0h (pk a l []) = rpL n l a 8 := by
 obtain ⟨h1, h2, h3, h4⟩ := a8k h
 have hp : ∀ p, (a1h n l a p).2.2 = (a2d l a p).2.2 := fun p => by unfold a1h; rw [if_pos h]
 have hform : ∀ k ∈ pk a l [], ∃ p, k = [p] := fun k hk => by
  rw [b16] at hk
  rcases hk with hk | ⟨e, _, ⟨_, rfl⟩ | ⟨_, rfl⟩⟩
  ·cases hk
  ·exact ⟨_, rfl⟩
  ·exact ⟨_, rfl⟩
 have hnd : ((pk a l []).map fun k => k.headD 0).Nodup := by
  have q : (pk a l []).Nodup := b8f a l [] (by simp)
  unfold List.Nodup at q ⊢
  rw [List.pairwise_map]
  refine List.Pairwise.imp_of_mem ?_ q
  intro x y hx hy hxy he
  obtain ⟨p, rfl⟩ := hform x hx
  obtain ⟨p', rfl⟩ := hform y hy
  exact hxy (by simp at he; rw [he])
 have hsorted : (rpL n l a 8).Pairwise (fun x y => decide (x <= y) = true) := by
  unfold rpL
  exact List.Pairwise.filter _ (by decide)
 have hnd2 : (rpL n l a 8).Nodup := by
  unfold rpL
  exact List.Pairwise.filter _ (by decide)
 have hperm : ((pk a l []).map fun k => k.headD 0).Perm (rpL n l a 8) := by
  rw [List.perm_ext_iff_of_nodup hnd hnd2]
  intro p
  rw [b2f, hp, a7q, List.mem_map]
  constructor
  ·rintro ⟨k, hk, rfl⟩
   rw [b16] at hk
   rcases hk with hk | ⟨e, he, hk⟩
   ·cases hk
   ·have h5 := h4 e he
    simp only [a6r, decide_eq_true_eq] at h5
    rcases hk with ⟨q, rfl⟩ | ⟨q, rfl⟩
    ·exact ⟨⟨h5.1.2.2.1, h5.1.2.2.2⟩, e, he, .inl ⟨q, rfl⟩⟩
    ·exact ⟨⟨h5.2.2.2.1, h5.2.2.2.2⟩, e, he, .inr ⟨q, rfl⟩⟩
  ·rintro ⟨_, e, he, ⟨q, rfl⟩ | ⟨q, rfl⟩⟩
   ·exact ⟨[e.pa], (b16 ..).2 (.inr ⟨e, he, .inl ⟨q, rfl⟩⟩), rfl⟩
   ·exact ⟨[e.pb], (b16 ..).2 (.inr ⟨e, he, .inr ⟨q, rfl⟩⟩), rfl⟩
 have e := mergeSort_of_perm_i hperm
 unfold b0h
 rw [e, List.mergeSort_of_pairwise hsorted]
theorem c7m (n : Int) (l : List Ed) (cap : Option Nat) (hl : l.length <= maxLen) (a : Int) (h : hasB n l a = true) :
  Runs Tryz.prog 71 [gA n l cap, .val (.int .i64 a)] [gB l] (Det (.sl 1 1 0 (rpL n l a 8).length none) [gB l, iB true (rpL n l a 8)]) := by
 obtain ⟨h1, h2, h3, h4⟩ := a8k h
 have e := c3i h
 have hlen := c8m a l []
 have r := c4m n l cap hl a h (fun k hk => by
  rw [b16] at hk
  rcases hk with hk | ⟨e, he, hk⟩
  ·cases hk
  ·have h5 := h4 e he
   simp only [a6r, decide_eq_true_eq] at h5
   rcases hk with ⟨q, rfl⟩ | ⟨q, rfl⟩ <;> simp only [List.headD_cons] <;> omega) (by simp only [List.length_nil] at hlen; omega)
 have e2 : (pk a l []).length = (rpL n l a 8).length := by rw [<- e, b53]
 rw [e, e2] at r
 exact r
end Go.Vx.L58

/- Lemmas of a small executor for the model, and contracts of functions, used for the law that this claim proves. No condition. -/
import Derived.Test.YtpohlkhnilcfnaaFI3
import Derived.Shelf.Lay
import Derived.Shelf.LaySoft
import Derived.Shelf.Sort.Plain
import Derived.Shelf.Slices.In.SortNone
import Derived.Sort.OwnSortedInts
import Derived.Shelf.Slices.CompactI
set_option linter.unusedSimpArgs false
set_option linter.unusedVariables false
namespace Go.Proofs
open Go.Shelf
def Try.lays189_ren : Go.Shelf.Ren := ⟨fun | 189 => 58 | 125 => 81 | 257 => 80 | 128 => 93 | 129 => 94 | 294 => 85 | 295 => 86 | 296 => 87 | 297 => 88 | 298 => 89 | 299 => 90 | 216 => 77 | 300 => 91 | 301 => 92 | 328 => 95 | 329 => 96 | 330 => 97 | 331 => 98 | 332 => 99 | 215 => 84 | 343 => 100 | n => n, fun | 28 => 25 | 3 => 3 | 46 => 88 | 0 => 0 | 51 => 81 | 53 => 101 | 4 => 4 | 183 => 93 | 182 => 92 | 131 => 97 | 5 => 5 | 9 => 9 | 218 => 102 | 222 => 106 | 228 => 108 | 229 => 109 | n => n, fun | n => n⟩
theorem Try.lays189 : Go.Proofs.Lays.n189 Try.prog Try.lays189_ren := {
  mixed := by kernel_rfl
  f125 := Try.func81.trans (congrArg some (by kernel_rfl))
  f128 := Try.func93.trans (congrArg some (by kernel_rfl))
  f129 := Try.func94.trans (congrArg some (by kernel_rfl))
  f189 := Try.func58.trans (congrArg some (by kernel_rfl))
  f215 := Try.func84.trans (congrArg some (by kernel_rfl))
  f216 := Try.func77.trans (congrArg some (by kernel_rfl))
  f257 := Try.func80.trans (congrArg some (by kernel_rfl))
  f294 := Try.func85.trans (congrArg some (by kernel_rfl))
  f295 := Try.func86.trans (congrArg some (by kernel_rfl))
  f296 := Try.func87.trans (congrArg some (by kernel_rfl))
  f297 := Try.func88.trans (congrArg some (by kernel_rfl))
  f298 := Try.func89.trans (congrArg some (by kernel_rfl))
  f299 := Try.func90.trans (congrArg some (by kernel_rfl))
  f300 := Try.func91.trans (congrArg some (by kernel_rfl))
  f301 := Try.func92.trans (congrArg some (by kernel_rfl))
  f328 := Try.func95.trans (congrArg some (by kernel_rfl))
  f329 := Try.func96.trans (congrArg some (by kernel_rfl))
  f330 := Try.func97.trans (congrArg some (by kernel_rfl))
  f331 := Try.func98.trans (congrArg some (by kernel_rfl))
  f332 := Try.func99.trans (congrArg some (by kernel_rfl))
  f343 := Try.func100.trans (congrArg some (by kernel_rfl))
  t0 := Try.underlying0
  a0 := Try.isAgg0
  z0 := Try.sizeOf0
  v0 := Try.zeroValue0
  t3 := Try.underlying3
  a3 := Try.isAgg3
  z3 := Try.sizeOf3
  v3 := Try.zeroValue3
  t4 := Try.underlying4
  a4 := Try.isAgg4
  z4 := Try.sizeOf4
  v4 := Try.zeroValue4
  t5 := Try.underlying5
  a5 := Try.isAgg5
  z5 := Try.sizeOf5
  v5 := Try.zeroValue5
  t9 := Try.underlying9
  a9 := Try.isAgg9
  z9 := Try.sizeOf9
  v9 := Try.zeroValue9
  t28 := Try.underlying25
  a28 := Try.isAgg25
  z28 := Try.sizeOf25
  v28 := Try.zeroValue25
  t46 := Try.underlying88
  a46 := Try.isAgg88
  z46 := Try.sizeOf88
  v46 := Try.zeroValue88
  t51 := Try.underlying81
  a51 := Try.isAgg81
  z51 := Try.sizeOf81
  v51 := Try.zeroValue81
  t53 := Try.underlying101
  a53 := Try.isAgg101
  z53 := Try.sizeOf101
  v53 := Try.zeroValue101
  t131 := Try.underlying97
  a131 := Try.isAgg97
  z131 := Try.sizeOf97
  v131 := Try.zeroValue97
  t182 := Try.underlying92
  a182 := Try.isAgg92
  z182 := Try.sizeOf92
  v182 := Try.zeroValue92
  t183 := Try.underlying93
  a183 := Try.isAgg93
  z183 := Try.sizeOf93
  v183 := Try.zeroValue93
  t218 := Try.underlying102
  a218 := Try.isAgg102
  z218 := Try.sizeOf102
  v218 := Try.zeroValue102
  t222 := Try.underlying106
  a222 := Try.isAgg106
  z222 := Try.sizeOf106
  v222 := Try.zeroValue106
  t228 := Try.underlying108
  a228 := Try.isAgg108
  z228 := Try.sizeOf108
  v228 := Try.zeroValue108
  t229 := Try.underlying109
  a229 := Try.isAgg109
  z229 := Try.sizeOf109
  v229 := Try.zeroValue109 }
end Go.Proofs
namespace Go.Vx
variable {P : Program}
open Go.Sort

theorem cell_of_heap {w : World} {g : Nat} {C : Array Value} {t : TypeId} {f : Nat × Nat} (h : w.heap[g]? = some (.cells C t f)) (o : Nat) : w.cell? ⟨g, o, none⟩ = C[o]? := by
  simp [World.cell?, h]

theorem sort_bridge {f : Nat} (hcall : ∀ xs w, (callFunc f xs).run P w = .ok (.enter f xs) w)
    (h1 : ∀ (blk off cap : Nat) (zs : List Int) (w : World), Holds (Value.int .i64) w blk off zs.toArray → blk < w.heap.size → zs.length < 4611686018427387904 →
      Calls P f #[.slice (some ⟨blk, off, none⟩) zs.length cap] w fun e w' => e = .returned (.tuple #[]) ∧ ∃ n os, w' = grow (putRow (Value.int .i64) (Sort.ahead w n) blk off (zs.mergeSort fun x y => decide (x ≤ y)).toArray) os)
    (h0 : ∀ (p : Option Addr) (cap : Nat) (w : World), Calls P f #[.slice p 0 cap] w fun e w' => e = .returned (.tuple #[]) ∧ w' = w)
    (l : List Int) (t : TypeId) (cap : Option Nat) (hl : l.length ≤ 1000000) :
    Runs P f [.sl 0 1 0 l.length cap] [.arr true t 1 l.length (intF l)] (Det (.tup []) [.arr true t 1 l.length (intF (l.mergeSort fun x y => decide (x ≤ y)))]) := by
  refine ⟨hcall, fun w ι cs hW hdom hrel => ?_⟩
  simp only [relL, rel] at hrel
  obtain ⟨c, r, rfl, ⟨a, k, rfl, hk, hcap, hpos⟩, rfl⟩ := hrel
  rcases Nat.eq_zero_or_pos l.length with hz | hp
  · have hl0 : l = [] := List.eq_nil_of_length_eq_zero hz
    subst hl0
    refine (h0 a k w).mono ?_
    rintro e w' ⟨rfl, rfl⟩
    refine ⟨_, _, _, ι, rfl, ⟨rfl, rfl⟩, by simp, ?_, fun _ _ => rfl, fun b hb => hdom b (by simpa using hb), ?_, by simpa using hW⟩
    · simp only [rel]; exact ⟨[], rfl, by simp [relL]⟩
    · intro b hb
      cases b with
      | zero => exact .inl rfl
      | succ b => simp [blL, Blk.live] at hb
  · obtain ⟨lc, hι, rfl, hn⟩ := hpos (by omega)
    have hbr := hW.br 0
    simp only [blL, BR] at hbr
    rcases hbr with ⟨e, _⟩ | ⟨lc', hι', hle, hcells, hrw⟩
    · omega
    rw [hι] at hι'; cases hι'
    obtain ⟨ho, hmax, C, hC, hCs⟩ := hrw trivial
    have hcell : ∀ i, i < l.length → C[i]? = some (.int .i64 (l.getD i 0)) := by
      intro i hi
      obtain ⟨cv, q1, q2, q3⟩ := hcells i hi 0 (by omega)
      rw [cell_of_heap hC, ho] at q1
      simp only [Nat.zero_add, Nat.mul_one, Nat.add_zero] at q1
      rw [q1]
      have : cv = .int .i64 (l.getD i 0) := q3
      rw [this]
    have hsz : (l.mergeSort fun x y => decide (x ≤ y)).length = l.length := List.length_mergeSort ..
    have hg : lc.g < w.heap.size := hW.lt 0 lc hι
    have hH : Holds (Value.int .i64) w lc.g (lc.o + 0 * 1) l.toArray := by
      intro j hj
      have hj' : j < l.length := by simpa using hj
      refine ⟨?_, by simp [World.frozen?, hC]⟩
      rw [cell_of_heap hC, show lc.o + 0 * 1 + j = j from by omega, hcell j hj']
      simp [hj']
    refine (h1 lc.g _ k l w hH hg (by omega)).mono ?_
    rintro e w' ⟨rfl, n, os, rfl⟩
    generalize hs : (l.mergeSort fun x y => decide (x ≤ y)) = s at hsz
    have hheap := heap_sortedI (n := n) (os := os) s.toArray hC
    have hgb := grownBy_sortedI (w := w) (g := lc.g) (n := n) (os := os) s.toArray
    have e0 : lc.o + 0 * 1 = 0 := by omega
    rw [e0]
    generalize grow (putRow (Value.int .i64) (Sort.ahead w n) lc.g 0 s.toArray) os = w' at hheap hgb
    obtain ⟨g1, g2, g3, g4, g5⟩ := hgb
    have hd : Delta ι (blL [.arr true t 1 l.length (intF l)]) 1 1 w ι [(0, .arr true t 1 l.length (intF s))] w' := {
      ext := fun _ _ => rfl
      br := by
        rintro b ⟨k', hk'⟩
        simp only [List.mem_singleton, Prod.mk.injEq] at hk'
        obtain ⟨rfl, rfl⟩ := hk'
        rw [updL_cons_same]
        refine .inr ⟨lc, hι, hle, fun i hi j hj => ?_, fun _ => ⟨ho, hmax, _, hheap, by simp [putCells, hCs]⟩⟩
        have hj0 : j = 0 := by omega
        subst hj0
        refine ⟨.int .i64 (s.getD i 0), ?_, rfl, rfl⟩
        rw [cell_of_heap hheap, ho]
        simp only [Nat.zero_add, Nat.mul_one, Nat.add_zero]
        have hi' : i < s.length := by omega
        have hiC : i < C.size := by
          rcases Nat.lt_or_ge i C.size with h | h
          · exact h
          · have := hcell i hi; rw [Array.getElem?_eq_none h] at this; cases this
        simp [putCells, Array.getElem?_eq_getElem hiC, hi']
      os := g1
      tape := g2
      output := g3
      size := g4
      keep := fun g hg' hk' => g5 g hg' fun e => by
        have e' : lc.g = g := by simpa using e.symm
        exact hk' 0 _ lc (List.mem_singleton.2 rfl) rfl hι e'
      lt := fun b l' q1 q2 _ => by omega
      fresh := fun b l' q1 q2 _ _ => by omega
      one := fun b b' l1 l2 q1 q2 _ _ _ _ _ _ _ => by omega
      rwn := by
        intro b k' hk' _
        simp only [List.mem_singleton, Prod.mk.injEq] at hk'
        rw [hk'.2]; rfl
      upr := by
        intro b k' hk'
        simp only [List.mem_singleton, Prod.mk.injEq] at hk'
        rw [hk'.1]
        exact .inr rfl }
    obtain ⟨_, hW'⟩ := hd.wr (fun b q1 q2 => by omega) hW
    have hfun : updL (blL [.arr true t 1 l.length (intF l)]) [(0, .arr true t 1 l.length (intF s))] = blL [.arr true t 1 l.length (intF s)] := by
      funext b
      cases b with
      | zero => rfl
      | succ b => rfl
    rw [hfun] at hW'
    refine ⟨_, _, _, ι, rfl, ⟨rfl, rfl⟩, by simp, ?_, fun _ _ => rfl, fun b hb => hdom b (by simpa using hb), ?_, by subst hs; exact hW'⟩
    · simp only [rel]; exact ⟨[], rfl, by simp [relL]⟩
    · intro b hb
      cases b with
      | zero => exact .inl rfl
      | succ b => simp [blL, Blk.live] at hb


def cmp (l : List Int) : List Int := Lib.compact l
def cmpZ (l : List Int) : List Int := cmp l ++ List.replicate (l.length - (cmp l).length) 0
theorem cmp_len (l : List Int) : (cmp l).length ≤ l.length := by
  unfold cmp Lib.compact Lib.compactUpTo
  rw [List.length_map]
  exact Nat.le_trans (List.length_filter_le ..) (by simp)
theorem cmpZ_len (l : List Int) : (cmpZ l).length = l.length := by
  have := cmp_len l
  simp [cmpZ]; omega

theorem compact_bridge {f : Nat} (hcall : ∀ xs w, (callFunc f xs).run P w = .ok (.enter f xs) w)
    (h1 : ∀ (blk off cap : Nat) (zs : List Int) (w : World), Holds (Value.int .i64) w blk off zs.toArray → blk < w.heap.size → zs.length ≤ 9223372036854775807 → zs.length ≤ cap →
      Calls P f #[.slice (some ⟨blk, off, none⟩) zs.length cap] w fun e w' => e = .returned (.slice (some ⟨blk, off, none⟩) (Lib.compact zs).length cap) ∧ ∃ q, w' = putRow (Value.int .i64) (Sort.ahead w q) blk off (Lib.compact zs ++ List.replicate (zs.length - (Lib.compact zs).length) 0).toArray)
    (h0 : ∀ (p : Option Addr) (cap : Nat) (w : World), Calls P f #[.slice p 0 cap] w fun e w' => e = .returned (.slice p 0 cap) ∧ w' = w)
    (l : List Int) (t : TypeId) (hl : l.length ≤ 1000000) :
    Runs P f [.sl 0 1 0 l.length none] [.arr true t 1 l.length (intF l)] (Det (.sl 0 1 0 (cmp l).length none) [.arr true t 1 l.length (intF (cmpZ l))]) := by
  refine ⟨hcall, fun w ι cs hW hdom hrel => ?_⟩
  simp only [relL, rel] at hrel
  obtain ⟨c, r, rfl, ⟨a, k, rfl, hk, hcap, hpos⟩, rfl⟩ := hrel
  rcases Nat.eq_zero_or_pos l.length with hz | hp
  · have hl0 : l = [] := List.eq_nil_of_length_eq_zero hz
    subst hl0
    refine (h0 a k w).mono ?_
    rintro e w' ⟨rfl, rfl⟩
    refine ⟨_, _, _, ι, rfl, ⟨rfl, rfl⟩, by simp, ?_, fun _ _ => rfl, fun b hb => hdom b (by simpa using hb), ?_, hW⟩
    · simp only [rel]; exact ⟨a, k, rfl, hk, hcap, hpos⟩
    · intro b hb
      cases b with
      | zero => exact .inl rfl
      | succ b => simp [blL, Blk.live] at hb
  · obtain ⟨lc, hι, rfl, hn⟩ := hpos (by omega)
    have hbr := hW.br 0
    simp only [blL, BR] at hbr
    rcases hbr with ⟨e, _⟩ | ⟨lc', hι', hle, hcells, hrw⟩
    · omega
    rw [hι] at hι'; cases hι'
    obtain ⟨ho, hmax, C, hC, hCs⟩ := hrw trivial
    have hcell : ∀ i, i < l.length → C[i]? = some (.int .i64 (l.getD i 0)) := by
      intro i hi
      obtain ⟨cv, q1, q2, q3⟩ := hcells i hi 0 (by omega)
      rw [cell_of_heap hC, ho] at q1
      simp only [Nat.zero_add, Nat.mul_one, Nat.add_zero] at q1
      rw [q1]
      have : cv = .int .i64 (l.getD i 0) := q3
      rw [this]
    have hsz : (cmpZ l).length = l.length := cmpZ_len l
    have hg : lc.g < w.heap.size := hW.lt 0 lc hι
    have hH : Holds (Value.int .i64) w lc.g (lc.o + 0 * 1) l.toArray := by
      intro j hj
      have hj' : j < l.length := by simpa using hj
      refine ⟨?_, by simp [World.frozen?, hC]⟩
      rw [cell_of_heap hC, show lc.o + 0 * 1 + j = j from by omega, hcell j hj']
      simp [hj']
    refine (h1 lc.g _ k l w hH hg (by omega) hk).mono ?_
    rintro e w' ⟨rfl, n, rfl⟩
    have hgr : ∀ w : World, grow w #[] = w := fun w => by simp [grow]
    rw [← hgr (putRow _ _ _ _ _)]
    rw [show (Lib.compact l ++ List.replicate (l.length - (Lib.compact l).length) 0) = cmpZ l from rfl]
    generalize os_ : (#[] : Array Obj) = os
    generalize hs : cmpZ l = s at hsz
    have hheap := heap_sortedI (n := n) (os := os) s.toArray hC
    have hgb := grownBy_sortedI (w := w) (g := lc.g) (n := n) (os := os) s.toArray
    have e0 : lc.o + 0 * 1 = 0 := by omega
    rw [e0]
    generalize grow (putRow (Value.int .i64) (Sort.ahead w n) lc.g 0 s.toArray) os = w' at hheap hgb
    obtain ⟨g1, g2, g3, g4, g5⟩ := hgb
    have hd : Delta ι (blL [.arr true t 1 l.length (intF l)]) 1 1 w ι [(0, .arr true t 1 l.length (intF s))] w' := {
      ext := fun _ _ => rfl
      br := by
        rintro b ⟨k', hk'⟩
        simp only [List.mem_singleton, Prod.mk.injEq] at hk'
        obtain ⟨rfl, rfl⟩ := hk'
        rw [updL_cons_same]
        refine .inr ⟨lc, hι, hle, fun i hi j hj => ?_, fun _ => ⟨ho, hmax, _, hheap, by simp [putCells, hCs]⟩⟩
        have hj0 : j = 0 := by omega
        subst hj0
        refine ⟨.int .i64 (s.getD i 0), ?_, rfl, rfl⟩
        rw [cell_of_heap hheap, ho]
        simp only [Nat.zero_add, Nat.mul_one, Nat.add_zero]
        have hi' : i < s.length := by omega
        have hiC : i < C.size := by
          rcases Nat.lt_or_ge i C.size with h | h
          · exact h
          · have := hcell i hi; rw [Array.getElem?_eq_none h] at this; cases this
        simp [putCells, Array.getElem?_eq_getElem hiC, hi']
      os := g1
      tape := g2
      output := g3
      size := g4
      keep := fun g hg' hk' => g5 g hg' fun e => by
        have e' : lc.g = g := by simpa using e.symm
        exact hk' 0 _ lc (List.mem_singleton.2 rfl) rfl hι e'
      lt := fun b l' q1 q2 _ => by omega
      fresh := fun b l' q1 q2 _ _ => by omega
      one := fun b b' l1 l2 q1 q2 _ _ _ _ _ _ _ => by omega
      rwn := by
        intro b k' hk' _
        simp only [List.mem_singleton, Prod.mk.injEq] at hk'
        rw [hk'.2]; rfl
      upr := by
        intro b k' hk'
        simp only [List.mem_singleton, Prod.mk.injEq] at hk'
        rw [hk'.1]
        exact .inr rfl }
    obtain ⟨_, hW'⟩ := hd.wr (fun b q1 q2 => by omega) hW
    have hfun : updL (blL [.arr true t 1 l.length (intF l)]) [(0, .arr true t 1 l.length (intF s))] = blL [.arr true t 1 l.length (intF s)] := by
      funext b
      cases b with
      | zero => rfl
      | succ b => rfl
    rw [hfun] at hW'
    refine ⟨_, _, _, ι, rfl, ⟨rfl, rfl⟩, by simp, ?_, fun _ _ => rfl, fun b hb => hdom b (by simpa using hb), ?_, by subst hs; exact hW'⟩
    · simp only [rel]; exact ⟨some ⟨lc.g, 0, none⟩, k, rfl, Nat.le_trans (cmp_len l) hk, hcap, fun _ => ⟨lc, hι, by rw [e0], hn⟩⟩
    · intro b hb
      cases b with
      | zero => exact .inl rfl
      | succ b => simp [blL, Blk.live] at hb


/-- At nil. -/
theorem sort_nil {f : Nat} (hcall : ∀ xs w, (callFunc f xs).run P w = .ok (.enter f xs) w)
    (h0 : ∀ (p : Option Addr) (cap : Nat) (w : World), Calls P f #[.slice p 0 cap] w fun e w' => e = .returned (.tuple #[]) ∧ w' = w) :
    Runs P f [.val (.slice none 0 0)] [] (Det (.tup []) []) := by
  refine ⟨hcall, fun w ι cs hW hdom hrel => ?_⟩
  simp only [relL, rel] at hrel
  obtain ⟨c, r, rfl, rfl, rfl⟩ := hrel
  refine (h0 none 0 w).mono ?_
  rintro e w' ⟨rfl, rfl⟩
  refine ⟨_, _, _, ι, rfl, ⟨rfl, rfl⟩, by simp, ?_, fun _ _ => rfl, fun b hb => hdom b (by simp), ?_, hW⟩
  · simp only [rel]; exact ⟨[], rfl, by simp [relL]⟩
  · intro b hb; simp [blL, Blk.live] at hb
end Go.Vx

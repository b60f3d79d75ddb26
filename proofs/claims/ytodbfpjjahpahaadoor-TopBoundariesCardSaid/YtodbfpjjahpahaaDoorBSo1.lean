/- Lemmas of a small executor for the model, and contracts of functions, used for the law that this claim proves. No condition. -/
import Derived.Test.YtodbfpjjahpahaaDoorBW3
import Derived.Sort.OwnSortedInts
set_option linter.unusedSimpArgs false
set_option linter.unusedVariables false
namespace Go.Vx
variable {P : Program}
open Go.Sort Go.Proofs
theorem b2l {w : World} {g n : Nat} {os : Array Obj} {cur : Array Value} {e : TypeId} {fr : Nat × Nat} (off : Nat) (d : Array Int) (hb : w.heap[g]? = some (.cells cur e fr)) :
  (grow (putRow (Value.int .i64) (Sort.ahead w n) g off d) os).heap[g]? = some (.cells (putCells (Value.int .i64) off d cur) e fr) := by
 have hg : g < w.heap.size := (Array.getElem?_eq_some_iff.1 hb).1
 rw [heap_grow_old _ _ (by simpa using hg)]
 simp [putRow, mapBlock, Sort.ahead, Array.getElem?_modify, hb, onCells]
theorem a9c {w : World} {g n : Nat} {os : Array Obj} (off : Nat) (d : Array Int) : w.grownBy (grow (putRow (Value.int .i64) (Sort.ahead w n) g off d) os) (some g) := by
 refine ⟨rfl, rfl, rfl, by simp, fun k hk hne => ?_⟩
 rw [heap_grow_old _ _ (by simpa using hk)]
 have : g ≠ k := fun e => hne (by rw [e])
 simp [putRow, mapBlock, Sort.ahead, Array.getElem?_modify, this]
theorem a6e {w : World} {g : Nat} {C : Array Value} {t : TypeId} {f : Nat × Nat} (h : w.heap[g]? = some (.cells C t f)) (o : Nat) : w.cell? ⟨g, o, none⟩ = C[o]? := by
 simp [World.cell?, h]
theorem b4r {f : Nat} (hcall : ∀ xs w, (callFunc f xs).run P w = .ok (.enter f xs) w)
  (h1 : ∀ (blk off cap : Nat) (zs : List Int) (w : World), Holds (Value.int .i64) w blk off zs.toArray -> blk < w.heap.size -> zs.length < 4611686018427387904 ->
   Calls P f #[.slice (some ⟨blk, off, none⟩) zs.length cap] w fun e w' => e = .returned (.tuple #[]) /\ ∃ n os, w' = grow (putRow (Value.int .i64) (Sort.ahead w n) blk off (zs.mergeSort fun x y => decide (x <= y)).toArray) os)
  (h0 : ∀ (p : Option Addr) (cap : Nat) (w : World), Calls P f #[.slice p 0 cap] w fun e w' => e = .returned (.tuple #[]) /\ w' = w)
  (l : List Int) (t : TypeId) (cap : Option Nat) (hl : l.length <= 1000000) :
  Runs P f [.sl 0 1 0 l.length cap] [.arr true t 1 l.length (b52 l)] (Det (.tup []) [.arr true t 1 l.length (b52 (l.mergeSort fun x y => decide (x <= y)))]) := by
 refine ⟨hcall, fun w ι cs hW hdom hrel => ?_⟩
 simp only [relL, rel] at hrel
 obtain ⟨c, r, rfl, ⟨a, k, rfl, hk, hcap, hpos⟩, rfl⟩ := hrel
 rcases Nat.eq_zero_or_pos l.length with hz | hp
 ·have hl0 : l = [] := List.eq_nil_of_length_eq_zero hz
  subst hl0
  refine (h0 a k w).mono ?_
  rintro e w' ⟨rfl, rfl⟩
  refine ⟨_, _, _, ι, rfl, ⟨rfl, rfl⟩, by simp, ?_, fun _ _ => rfl, fun b hb => hdom b (by simpa using hb), ?_, by simpa using hW⟩
  ·simp only [rel]; exact ⟨[], rfl, by simp [relL]⟩
  ·intro b hb
   cases b with
   | zero => exact .inl rfl
   | succ b => simp [blL, Blk.live] at hb
 ·obtain ⟨lc, hι, rfl, hn⟩ := hpos (by omega)
  have hbr := hW.br 0
  simp only [blL, BR] at hbr
  rcases hbr with ⟨e, _⟩ | ⟨lc', hι', hle, hcells, hrw⟩
  ·omega
  rw [hι] at hι'; cases hι'
  obtain ⟨hmax, C, qq, ho, hC, hCs⟩ := hrw trivial
  have hcell : ∀ i, i < l.length -> C[lc.o + i]? = some (.int .i64 (l.getD i 0)) := by
   intro i hi
   obtain ⟨cv, q1, q2, q3⟩ := hcells i hi 0 (by omega)
   rw [a6e hC] at q1
   simp only [Nat.mul_one, Nat.add_zero] at q1
   rw [q1]
   have : cv = .int .i64 (l.getD i 0) := q3
   rw [this]
  have hsz : (l.mergeSort fun x y => decide (x <= y)).length = l.length := List.length_mergeSort ..
  have hg : lc.g < w.heap.size := hW.lt 0 lc hι
  have hH : Holds (Value.int .i64) w lc.g (lc.o + 0 * 1) l.toArray := by
   intro j hj
   have hj' : j < l.length := by simpa using hj
   refine ⟨?_, by simp [World.frozen?, hC]⟩
   rw [a6e hC, show lc.o + 0 * 1 + j = lc.o + j from by omega, hcell j hj']
   simp [hj']
  refine (h1 lc.g _ k l w hH hg (by omega)).mono ?_
  rintro e w' ⟨rfl, n, os, rfl⟩
  generalize hs : (l.mergeSort fun x y => decide (x <= y)) = s at hsz
  have hheap := b2l (n := n) (os := os) lc.o s.toArray hC
  have hgb := a9c (w := w) (g := lc.g) (n := n) (os := os) lc.o s.toArray
  have e0 : lc.o + 0 * 1 = lc.o := by omega
  rw [e0]
  generalize grow (putRow (Value.int .i64) (Sort.ahead w n) lc.g lc.o s.toArray) os = w' at hheap hgb
  obtain ⟨g1, g2, g3, g4, g5⟩ := hgb
  have hd : Delta ι (blL [.arr true t 1 l.length (b52 l)]) 1 1 w ι [(0, .arr true t 1 l.length (b52 s))] w' := {
   ext := fun _ _ => rfl
   br := by
    rintro b ⟨k', hk'⟩
    simp only [List.mem_singleton, Prod.mk.injEq] at hk'
    obtain ⟨rfl, rfl⟩ := hk'
    rw [a0p]
    refine .inr ⟨lc, hι, hle, fun i hi j hj => ?_, fun _ => ⟨hmax, _, qq, ho, hheap, by simp [putCells, hCs]⟩⟩
    have hj0 : j = 0 := by omega
    subst hj0
    refine ⟨.int .i64 (s.getD i 0), ?_, rfl, rfl⟩
    rw [a6e hheap]
    simp only [Nat.mul_one, Nat.add_zero]
    have hi' : i < s.length := by omega
    have hiC : lc.o + i < C.size := by
     rcases Nat.lt_or_ge (lc.o + i) C.size with h | h
     ·exact h
     ·have := hcell i hi; rw [Array.getElem?_eq_none h] at this; cases this
    simp [putCells, Array.getElem?_eq_getElem hiC, hi']
   os := g1
   tape := g2
   output := g3
   size := g4
   keep := fun g hg' hk' => g5 g hg' fun e => by
    have e' : lc.g = g := by simpa using e.symm
    exact hk' 0 _ lc (List.mem_singleton.2 rfl) rfl hι e'
   lt := fun b l' q1 q2 _ => by omega
   fresh := fun b l' q1 q2 _ _ => by omega
   one := fun b b' l1 l2 q1 q2 _ _ _ _ _ _ _ => by omega
   rwn := by
    intro b k' hk' _
    simp only [List.mem_singleton, Prod.mk.injEq] at hk'
    rw [hk'.2]; rfl
   upr := by
    intro b k' hk'
    simp only [List.mem_singleton, Prod.mk.injEq] at hk'
    rw [hk'.1]
    exact .inr rfl
   pl := by
    intro b k' hk'
    simp only [List.mem_singleton, Prod.mk.injEq] at hk'
    rw [hk'.1, hk'.2]
    exact ⟨rfl, .inr rfl⟩ }
  obtain ⟨_, hW'⟩ := (hd.toG (fun b q1 q2 => by omega) hW).wr (fun b q1 q2 => by omega) hW
  have hfun : a1i (blL [.arr true t 1 l.length (b52 l)]) [(0, .arr true t 1 l.length (b52 s))] = blL [.arr true t 1 l.length (b52 s)] := by
   funext b
   cases b with
   | zero => rfl
   | succ b => rfl
  rw [hfun] at hW'
  refine ⟨_, _, _, ι, rfl, ⟨rfl, rfl⟩, by simp, ?_, fun _ _ => rfl, fun b hb => hdom b (by simpa using hb), ?_, by subst hs; exact hW'⟩
  ·simp only [rel]; exact ⟨[], rfl, by simp [relL]⟩
  ·intro b hb
   cases b with
   | zero => exact .inl rfl
   | succ b => simp [blL, Blk.live] at hb
end Go.Vx

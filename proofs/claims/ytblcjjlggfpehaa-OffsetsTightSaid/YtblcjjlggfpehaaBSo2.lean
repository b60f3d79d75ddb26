/- Lemmas of a small executor for the model, and contracts of functions, used for the law that this claim proves. No condition. -/
import Derived.Test.YtblcjjlggfpehaaBSo1
import Derived.Shelf.Slices.CompactI
set_option linter.unusedSimpArgs false
set_option linter.unusedVariables false
/- A row of the code's own, compacted by the library. -/
namespace Go.Vx
variable {P : Program}
open Go.Sort Go.Proofs
def cmp (l : List Int) : List Int := Lib.compact l
def cmpZ (l : List Int) : List Int := cmp l ++ List.replicate (l.length - (cmp l).length) 0
theorem cmp_len (l : List Int) : (cmp l).length ≤ l.length := by
  unfold cmp Lib.compact Lib.compactUpTo
  rw [List.length_map]
  exact Nat.le_trans (List.length_filter_le ..) (by simp)
theorem cmpZ_len (l : List Int) : (cmpZ l).length = l.length := by
  have := cmp_len l
  simp [cmpZ]; omega

theorem compact_bridge {f : Nat} (hcall : ∀ xs w, (callFunc f xs).run P w = .ok (.enter f xs) w)
    (h1 : ∀ (blk off cap : Nat) (zs : List Int) (w : World), Holds (Value.int .i64) w blk off zs.toArray → blk < w.heap.size → zs.length ≤ 9223372036854775807 → zs.length ≤ cap →
      Calls P f #[.slice (some ⟨blk, off, none⟩) zs.length cap] w fun e w' => e = .returned (.slice (some ⟨blk, off, none⟩) (Lib.compact zs).length cap) ∧ ∃ q, w' = putRow (Value.int .i64) (Sort.ahead w q) blk off (Lib.compact zs ++ List.replicate (zs.length - (Lib.compact zs).length) 0).toArray)
    (h0 : ∀ (p : Option Addr) (cap : Nat) (w : World), Calls P f #[.slice p 0 cap] w fun e w' => e = .returned (.slice p 0 cap) ∧ w' = w)
    (l : List Int) (t : TypeId) (hl : l.length ≤ 1000000) :
    Runs P f [.sl 0 1 0 l.length none] [.arr true t 1 l.length (intF l)] (Det (.sl 0 1 0 (cmp l).length none) [.arr true t 1 l.length (intF (cmpZ l))]) := by
  refine ⟨hcall, fun w ι cs hW hdom hrel => ?_⟩
  simp only [relL, rel] at hrel
  obtain ⟨c, r, rfl, ⟨a, k, rfl, hk, hcap, hpos⟩, rfl⟩ := hrel
  rcases Nat.eq_zero_or_pos l.length with hz | hp
  · have hl0 : l = [] := List.eq_nil_of_length_eq_zero hz
    subst hl0
    refine (h0 a k w).mono ?_
    rintro e w' ⟨rfl, rfl⟩
    refine ⟨_, _, _, ι, rfl, ⟨rfl, rfl⟩, by simp, ?_, fun _ _ => rfl, fun b hb => hdom b (by simpa using hb), ?_, hW⟩
    · simp only [rel]; exact ⟨a, k, rfl, hk, hcap, hpos⟩
    · intro b hb
      cases b with
      | zero => exact .inl rfl
      | succ b => simp [blL, Blk.live] at hb
  · obtain ⟨lc, hι, rfl, hn⟩ := hpos (by omega)
    have hbr := hW.br 0
    simp only [blL, BR] at hbr
    rcases hbr with ⟨e, _⟩ | ⟨lc', hι', hle, hcells, hrw⟩
    · omega
    rw [hι] at hι'; cases hι'
    obtain ⟨hmax, C, qq, ho, hC, hCs⟩ := hrw trivial
    have hcell : ∀ i, i < l.length → C[lc.o + i]? = some (.int .i64 (l.getD i 0)) := by
      intro i hi
      obtain ⟨cv, q1, q2, q3⟩ := hcells i hi 0 (by omega)
      rw [cell_of_heap hC] at q1
      simp only [Nat.mul_one, Nat.add_zero] at q1
      rw [q1]
      have : cv = .int .i64 (l.getD i 0) := q3
      rw [this]
    have hsz : (cmpZ l).length = l.length := cmpZ_len l
    have hg : lc.g < w.heap.size := hW.lt 0 lc hι
    have hH : Holds (Value.int .i64) w lc.g (lc.o + 0 * 1) l.toArray := by
      intro j hj
      have hj' : j < l.length := by simpa using hj
      refine ⟨?_, by simp [World.frozen?, hC]⟩
      rw [cell_of_heap hC, show lc.o + 0 * 1 + j = lc.o + j from by omega, hcell j hj']
      simp [hj']
    refine (h1 lc.g _ k l w hH hg (by omega) hk).mono ?_
    rintro e w' ⟨rfl, n, rfl⟩
    have hgr : ∀ w : World, grow w #[] = w := fun w => by simp [grow]
    rw [← hgr (putRow _ _ _ _ _)]
    rw [show (Lib.compact l ++ List.replicate (l.length - (Lib.compact l).length) 0) = cmpZ l from rfl]
    generalize os_ : (#[] : Array Obj) = os
    generalize hs : cmpZ l = s at hsz
    have hheap := heap_sortedIo (n := n) (os := os) lc.o s.toArray hC
    have hgb := grownBy_sortedIo (w := w) (g := lc.g) (n := n) (os := os) lc.o s.toArray
    have e0 : lc.o + 0 * 1 = lc.o := by omega
    rw [e0]
    generalize grow (putRow (Value.int .i64) (Sort.ahead w n) lc.g lc.o s.toArray) os = w' at hheap hgb
    obtain ⟨g1, g2, g3, g4, g5⟩ := hgb
    have hd : Delta ι (blL [.arr true t 1 l.length (intF l)]) 1 1 w ι [(0, .arr true t 1 l.length (intF s))] w' := {
      ext := fun _ _ => rfl
      br := by
        rintro b ⟨k', hk'⟩
        simp only [List.mem_singleton, Prod.mk.injEq] at hk'
        obtain ⟨rfl, rfl⟩ := hk'
        rw [updL_cons_same]
        refine .inr ⟨lc, hι, hle, fun i hi j hj => ?_, fun _ => ⟨hmax, _, qq, ho, hheap, by simp [putCells, hCs]⟩⟩
        have hj0 : j = 0 := by omega
        subst hj0
        refine ⟨.int .i64 (s.getD i 0), ?_, rfl, rfl⟩
        rw [cell_of_heap hheap]
        simp only [Nat.mul_one, Nat.add_zero]
        have hi' : i < s.length := by omega
        have hiC : lc.o + i < C.size := by
          rcases Nat.lt_or_ge (lc.o + i) C.size with h | h
          · exact h
          · have := hcell i hi; rw [Array.getElem?_eq_none h] at this; cases this
        simp [putCells, Array.getElem?_eq_getElem hiC, hi']
      os := g1
      tape := g2
      output := g3
      size := g4
      keep := fun g hg' hk' => g5 g hg' fun e => by
        have e' : lc.g = g := by simpa using e.symm
        exact hk' 0 _ lc (List.mem_singleton.2 rfl) rfl hι e'
      lt := fun b l' q1 q2 _ => by omega
      fresh := fun b l' q1 q2 _ _ => by omega
      one := fun b b' l1 l2 q1 q2 _ _ _ _ _ _ _ => by omega
      rwn := by
        intro b k' hk' _
        simp only [List.mem_singleton, Prod.mk.injEq] at hk'
        rw [hk'.2]; rfl
      upr := by
        intro b k' hk'
        simp only [List.mem_singleton, Prod.mk.injEq] at hk'
        rw [hk'.1]
        exact .inr rfl
      pl := by
        intro b k' hk'
        simp only [List.mem_singleton, Prod.mk.injEq] at hk'
        rw [hk'.1, hk'.2]
        exact ⟨rfl, .inr rfl⟩ }
    obtain ⟨_, hW'⟩ := (hd.toG (fun b q1 q2 => by omega) hW).wr (fun b q1 q2 => by omega) hW
    have hfun : updL (blL [.arr true t 1 l.length (intF l)]) [(0, .arr true t 1 l.length (intF s))] = blL [.arr true t 1 l.length (intF s)] := by
      funext b
      cases b with
      | zero => rfl
      | succ b => rfl
    rw [hfun] at hW'
    refine ⟨_, _, _, ι, rfl, ⟨rfl, rfl⟩, by simp, ?_, fun _ _ => rfl, fun b hb => hdom b (by simpa using hb), ?_, by subst hs; exact hW'⟩
    · simp only [rel]; exact ⟨some ⟨lc.g, lc.o, none⟩, k, rfl, Nat.le_trans (cmp_len l) hk, hcap, fun _ => ⟨lc, hι, by rw [e0], hn⟩⟩
    · intro b hb
      cases b with
      | zero => exact .inl rfl
      | succ b => simp [blL, Blk.live] at hb

end Go.Vx

/- Lemmas of a small executor for the model, and contracts of functions, used for the law that this claim proves. No condition. -/
import Derived.Test.YtodbfpjjahpahaaDoorBW3
import Derived.Shelf.SlIterI.Sorted
set_option linter.unusedSimpArgs false
set_option linter.unusedVariables false
namespace Go.Vx
open Go.Sort Go.Proofs Go.Maps Go.RowKit Go.WideShapes
variable {P : Program} {ι : Lay} {w : World}
def a9x (ks : List (List Int)) : List Int := (ks.map fun k => k.headD 0).mergeSort fun x y => decide (x <= y)
theorem b36 (ks : List (List Int)) : (a9x ks).length = ks.length := by simp [a9x]
abbrev c8g : Value -> Option (DataW Unit × List MemPlace) := fun _ => some (.nil, [])
theorem c3i {kt : TypeId} (hkt : P.underlying kt = some (.int .i64)) {ks : List (List Int)} {c : List Int -> AV} {es : Array MapEntry} {clock : Nat} (h : MapR ι none ks c es.toList) (hs : MapKept.Stamped es clock)
  (hwf : ∀ k ∈ ks, -9223372036854775808 <= k.headD 0 /\ k.headD 0 <= 9223372036854775807) (hlen : ks.length <= maxLen) {b : Nat} (hb : w.heap[b]? = some (.map es clock)) :
  ∃ D0 : DataW Unit, w.ownsMap P kt c8g b ks.length D0 /\ (intKeys D0).Perm (ks.map fun k => k.headD 0) /\ Maps.size D0 = ks.length := by
 have hsz : es.toList.length = ks.length := by have := congrArg List.length h.keys; simpa using this
 have hkey : ∀ (j : Nat) (e : MapEntry), es.toList[j]? = some e -> ∃ m, ks[j]? = some m /\ e.key = .int .i64 (m.headD 0) := by
  intro j e he
  have h1 : (es.toList.map (·.key))[j]? = some e.key := by rw [List.getElem?_map, he]; rfl
  rw [h.keys, List.getElem?_map] at h1
  cases hk : ks[j]? with
  | none => rw [hk] at h1; cases h1
  | some m => rw [hk] at h1; simp only [Option.map_some, Option.some.injEq] at h1; exact ⟨m, rfl, h1.symm⟩
 have hrd : ∀ (j : Nat) (e : MapEntry), es.toList[j]? = some e -> ∃ m, ks[j]? = some m /\ WideElems.rd P kt c8g e = some (.int .i64 (m.headD 0), .nil) := by
  intro j e he
  obtain ⟨m, hm, hk⟩ := hkey j e he
  refine ⟨m, hm, ?_⟩
  have hw := hwf m (List.mem_of_getElem? hm)
  have : (Lit.int .i64 (m.headD 0)).wf = true := by
   simp only [Lit.wf, Bool.and_eq_true, decide_eq_true_eq]
   exact ⟨hw.1, hw.2⟩
  have h2 : Go.keyOf P kt e.key = some (.int .i64 (m.headD 0)) := by
   rw [hk]; unfold Go.keyOf; rw [hkt]; simp only [mapKey, hkt, this, and_self, if_true]
  simp only [WideElems.rd, h2, Option.bind_some, Option.map_some]
 refine ⟨_, ⟨es, clock, hb, ⟨?_, hs, fun x hx => ?_⟩, ?_, rfl⟩, ?_, ?_⟩
 ·rw [<- Array.length_toList, hsz]; exact hlen
 ·obtain ⟨j, hj⟩ := List.mem_iff_getElem?.1 hx
  obtain ⟨m, _, hr⟩ := hrd j x hj
  exact ⟨_, hr⟩
 ·rw [<- Array.length_toList, hsz]; exact Nat.le_refl _
 ·simp only [intKeys]
  refine ((sorted_perm _).map _).trans ?_
  rw [List.map_map]
  refine List.Perm.of_eq ?_
  apply List.ext_getElem?
  intro j
  rw [List.getElem?_map, List.getElem?_map]
  cases he : es.toList[j]? with
  | none =>
   have : ks[j]? = none := by
    rw [List.getElem?_eq_none_iff] at he ⊢
    omega
   rw [this]; rfl
  | some e =>
   obtain ⟨m, hm, hr⟩ := hrd j e he
   rw [hm]
   simp [WideElems.rg, hr, Go.intOf]
 ·simp only [Maps.size]
  rw [(sorted_perm _).length_eq, List.length_map]
  exact hsz
theorem b2n {fS fK : Nat} (hcall : ∀ xs w, (callFunc fS xs).run P w = .ok (.enter fS xs) w) {kt : TypeId} (hkt : P.underlying kt = some (.int .i64))
  (h1 : ∀ (Bm b nn : Nat) (D0 : DataW Unit) (w : World), Bm < w.heap.size -> w.cell? ⟨Bm, 0, none⟩ = some (.map (some b)) -> w.ownsMap P kt c8g b nn D0 -> Maps.size D0 <= maxLen -> Maps.size D0 * 8 <= 140737488355328 ->
   Calls P fS #[.func (.func fK) #[] #[.pointer (some ⟨Bm, 0, none⟩)]] w fun e w' => ∃ (v : Value) (ss : List Int), e = .returned v /\ ss.Perm (intKeys D0) /\
    w'.ownsRow w.heap.size kt 1 v ss.length ((ss.mergeSort (fun x y => decide (x <= y))).map encZ) /\ (v = .slice none 0 0 ↔ ss = []) /\ Below w.heap.size w w')
  (ks : List (List Int)) (c : List Int -> AV) (hwf : ∀ k ∈ ks, -9223372036854775808 <= k.headD 0 /\ k.headD 0 <= 9223372036854775807) (hlen : ks.length <= 1000000) :
  Runs P fS [.fn (.func fK) [.ptr 0 1 0 0]] [.var [.map 1], .map none ks c] (Det (.sl 2 1 0 ks.length none) [.var [.map 1], .map none ks c, .arr true kt 1 ks.length (b52 (a9x ks))]) := by
 refine ⟨hcall, fun w ι cs hW hdom hrel => ?_⟩
 simp only [relL, rel] at hrel
 obtain ⟨_, r, rfl, ⟨_, rfl, x, r2, rfl, ⟨l0, hl0, rfl⟩, rfl⟩, rfl⟩ := hrel
 have hb0 := hW.br 0
 simp only [blL, BR] at hb0
 obtain ⟨l0', C, t, q1, ⟨q2, _⟩, q3, q4⟩ := hb0
 rw [hl0] at q1; cases q1
 obtain ⟨cv, q5, _, q6⟩ := q4 0 (.map 1) rfl
 simp only [rel] at q6
 obtain ⟨l1, hl1, rfl⟩ := q6
 have hb1 := hW.br 1
 simp only [blL, BR] at hb1
 obtain ⟨l1', es, clock, p1, p2, p3, p4⟩ := hb1
 rw [hl1] at p1; cases p1
 obtain ⟨D0, o1, o2, o3⟩ := c3i (w := w) hkt p3 p4 hwf (by unfold maxLen; omega) p2
 have hlt := hW.lt
 have hcell : w.cell? ⟨l0.g, 0, none⟩ = some (.map (some l1.g)) := by
  rw [cell_of_row w l0.g 0 C t (0, 0) q3]; exact q5
 have e0 : l0.o + (0 * 1 + 0) = 0 := by omega
 rw [e0]
 refine (h1 l0.g l1.g _ D0 w (hlt 0 l0 hl0) hcell o1 (by rw [o3]; unfold maxLen; omega) (by rw [o3]; omega)).mono ?_
 rintro e w' ⟨v, ss, rfl, hperm, hrow, hnil, hbel⟩
 have hsl : ss.length = ks.length := by rw [hperm.length_eq, o2.length_eq]; simp
 have hsort : ss.mergeSort (fun x y => decide (x <= y)) = a9x ks := mergeSort_of_perm_i (hperm.trans o2)
 rw [hsort] at hrow
 obtain ⟨hxs, hrow⟩ := hrow
 let L : List Blk := [.var [.map 1], .map none ks c]
 let k : Blk := .arr true kt 1 ks.length (b52 (a9x ks))
 have fin : ∀ (ι' : Lay), (∀ b, b ≠ 2 -> ι' b = ι b) -> (∀ l, ι' 2 = some l -> w.heap.size <= l.g /\ l.g < w'.heap.size) -> BR ι' w' 2 k ->
   (∀ b, b < L.length -> ι' b = ι b) /\ (∀ b, 3 <= b -> ι' b = none) /\ (∀ b, (blL (L ++ [k]) b).live = true -> (blL (L ++ [k]) b).rw = true \/ (b < L.length /\ (blL L b).rw = false)) /\ WR (a8i ι (blL L) w) ι' (blL (L ++ [k])) w' := by
  intro ι' i1 i2 i3
  have hd : Delta ι (blL L) 2 3 w ι' [(2, k)] w' := {
   ext := fun b hb => i1 b (by omega)
   br := by
    rintro b ⟨k', hk'⟩
    simp only [List.mem_singleton, Prod.mk.injEq] at hk'
    obtain ⟨rfl, rfl⟩ := hk'
    rw [a0p]; exact i3
   os := hbel.os
   tape := hbel.tape
   output := hbel.output
   size := hbel.size
   keep := fun g hg _ => hbel.block g hg
   lt := fun b l h1 h2 h3 => by
    have : b = 2 := by omega
    subst this; exact (i2 l h3).2
   fresh := fun b l h1 h2 _ h3 => by
    have : b = 2 := by omega
    subst this; exact .inl (i2 l h3).1
   one := fun b b' l l' h1 h2 h3 h4 hne _ _ _ _ => by omega
   rwn := by
    intro b k' hk' _
    simp only [List.mem_singleton, Prod.mk.injEq] at hk'
    rw [hk'.2]; rfl
   upr := by
    intro b k' hk'
    simp only [List.mem_singleton, Prod.mk.injEq] at hk'
    exact .inl (by omega)
   pl := by
    intro b k' hk'
    simp only [List.mem_singleton, Prod.mk.injEq] at hk'
    exact ⟨by rw [hk'.2]; rfl, .inl (by omega)⟩ }
  have hnone : ∀ b, 2 <= b -> ι b = none := fun b hb => hdom b (by simpa using hb)
  have hnn : ∀ b, 2 <= b -> b < 3 -> ι b = none /\ blL L b = .gone := fun b q1 q2 => ⟨hnone b q1, by
   have : b = 2 := by omega
   subst this; rfl⟩
  obtain ⟨_, hW'⟩ := (hd.toG hnn hW).wr hnn hW
  have hfun : a1i (blL L) [(2, k)] = blL (L ++ [k]) := by
   funext b
   match b with
   | 0 => rfl
   | 1 => rfl
   | 2 => rfl
   | b + 3 => rfl
  rw [hfun] at hW'
  refine ⟨fun b hb => i1 b (by simp [L] at hb; omega), fun b hb => by rw [i1 b (by omega)]; exact hnone b (by omega), fun b hb => ?_, hW'⟩
  match b, hb with
  | 0, _ => exact .inl rfl
  | 1, _ => exact .inl rfl
  | 2, _ => exact .inl rfl
  | b + 3, hb => simp [L, blL, Blk.live] at hb
 have hnone : ι 2 = none := hdom 2 (by simp)
 rcases hrow with ⟨rfl, hz⟩ | ⟨g, cap, cur, rfl, hg, hC, hcap, hmx, hcs, htake⟩
 ·have hk0 : ks.length = 0 := by omega
  obtain ⟨f1, f2, f3, f4⟩ := fin ι (fun _ _ => rfl) (fun l h => by rw [hnone] at h; cases h) (.inl ⟨hk0, hnone⟩)
  refine ⟨_, _, _, ι, rfl, ⟨rfl, rfl⟩, by simp, ?_, f1, f2, f3, f4⟩
  simp only [rel]
  refine ⟨none, 0, by rw [hk0], by omega, ?_, ?_⟩
  ·intro m h; cases h
  ·intro h; omega
 ·have hgs : g < w'.heap.size := (Array.getElem?_eq_some_iff.1 hC).1
  let ι' : Lay := fun x => if x = 2 then some ⟨g, 0, cap⟩ else ι x
  have hself : ι' 2 = some ⟨g, 0, cap⟩ := by simp [ι']
  rw [hsl] at hcap htake
  obtain ⟨f1, f2, f3, f4⟩ := fin ι' (fun b hb => by simp [ι', hb]) (fun l h => by rw [hself] at h; cases h; exact ⟨hg, hgs⟩) (.inr ⟨_, hself, hcap, fun i hi j hj => by
   have hj0 : j = 0 := by omega
   subst hj0
   refine ⟨.int .i64 ((a9x ks).getD i 0), ?_, rfl, rfl⟩
   rw [cell_of_row w' g _ cur kt (0, 0) hC]
   have h1 : (cur.toList.take (ks.length * 1))[i]? = cur.toList[i]? := List.getElem?_take_of_lt (by omega)
   rw [htake, List.getElem?_map] at h1
   have hi' : i < (a9x ks).length := by rw [b36]; exact hi
   rw [List.getElem?_eq_getElem hi', Option.map_some] at h1
   have e1 : (0 : Nat) + (i * 1 + 0) = i := by omega
   rw [e1, <- Array.getElem?_toList, <- h1]
   simp [encZ, List.getD_eq_getElem?_getD, List.getElem?_eq_getElem hi'], fun _ => ⟨hmx, cur, 0, (Nat.zero_mul _).symm, hC, by rw [Nat.zero_add]; exact hcs⟩⟩)
  refine ⟨_, _, _, ι', rfl, ⟨rfl, rfl⟩, by simp, ?_, f1, f2, f3, f4⟩
  simp only [rel]
  refine ⟨_, cap, by rw [hsl], hcap, ?_, ?_⟩
  ·intro m h; cases h
  ·intro _; exact ⟨_, hself, by simp, fun _ => by simp⟩
end Go.Vx

/- Lemmas of a small executor for the model, and contracts of functions, used for the law that this claim proves. No condition. -/
import Derived.Test.YtodbfpjjahpahaaGreatDoorEW3
import Derived.Test.YtodbfpjjahpahaaGreatDoorET58
import Derived.Handy
import Derived.Test.YtodbfpjjahpahaaGreatDoorEE0
import Derived.Test.YtodbfpjjahpahaaGreatDoorEEA7
set_option linter.unusedSimpArgs false
set_option linter.unusedVariables false
set_option maxRecDepth 100000
namespace Go.Vx.L58
open Go Go.Proofs
abbrev osR (os : List Osc) (hd : Nat -> Value) : Blk := .rows false 2 os.length hd (sgR os)
abbrev oA (os : List Osc) (hd : Nat -> Value) (i : Nat) : AV := .agg [.val (.int .i64 (os.getD i os0).ph), .rsl 0 i 2 (os.getD i os0).sg.length (hd i)]
def c48 (sg : List Sg) (i : Nat) : Int :=
 if (sg.getD i sg0).a < 0 \/ 1125899906842624 < (sg.getD i sg0).a \/ (sg.getD i sg0).p < -500000 \/ 500000 < (sg.getD i sg0).p then 3
 else if i = 0 /\ (sg.getD i sg0).a ≠ 0 then 7 else if 0 < i /\ (sg.getD i sg0).a <= (sg.getD (i - 1) sg0).a then 12 else 0
def b84 (sg : List Sg) : Nat -> Nat -> Int
 | 0, _ => 0
 | k + 1, i => if c48 sg i ≠ 0 then c48 sg i else b84 sg k (i + 1)
def ckO (o : Osc) : Int := if o.sg.length = 0 then 14 else if 16 < o.sg.length then 6 else if o.ph < -1125899906842624 \/ 1125899906842624 < o.ph then 3 else b84 o.sg o.sg.length 0
theorem d0c {c e f : Int} (h : (if c ≠ 0 then c else e) = f) (hc : c = 0) : e = f := by rw [<- h, hc, if_neg (by simp)]
set_option maxHeartbeats 4000000 in
theorem b0g (os : List Osc) (hd : Nat -> Value) (i : Nat) (hi : i < os.length) :
  Runs Tryz.prog 26 [oA os hd i] [osR os hd] (Det (.val (.int .i64 (ckO (os.getD i os0)))) [osR os hd]) := by
 by_cases c1 : (os.getD i os0).sg.length = 0
 ·rw [show ckO (os.getD i os0) = 14 by unfold ckO; rw [if_pos c1]]
  refine Runs.mk a0k Tryz.call26 Tryz.func26 rfl Tryz.ntmps26 Tryz.results26 rfl ?_
  (repeat' (first
  | refine SP ?_
  | (apply a0a <;> intro hb <;> (try simp only [nS, nT, eq_self, reduceCtorEq] at hb) <;> (try (exfalso; omega)))
  | refine a0c ?_
  | exact RT [some 0]
  ))
 by_cases c2 : 16 < (os.getD i os0).sg.length
 ·rw [show ckO (os.getD i os0) = 6 by unfold ckO; rw [if_neg c1, if_pos c2]]
  refine Runs.mk a0k Tryz.call26 Tryz.func26 rfl Tryz.ntmps26 Tryz.results26 rfl ?_
  (repeat' (first
  | refine SP ?_
  | (apply a0a <;> intro hb <;> (try simp only [nS, nT, eq_self, reduceCtorEq] at hb) <;> (try (exfalso; omega)))
  | refine a0c ?_
  | exact RT [some 0]
  ))
 by_cases c3 : (os.getD i os0).ph < -1125899906842624 \/ 1125899906842624 < (os.getD i os0).ph
 ·rw [show ckO (os.getD i os0) = 3 by unfold ckO; rw [if_neg c1, if_neg c2, if_pos c3]]
  refine Runs.mk a0k Tryz.call26 Tryz.func26 rfl Tryz.ntmps26 Tryz.results26 rfl ?_
  (repeat' (first
  | refine SP ?_
  | (apply a0a <;> intro hb <;> (try simp only [nS, nT, eq_self, reduceCtorEq] at hb) <;> (try (exfalso; omega)))
  | refine a0c ?_
  | exact RT [some 0]
  ))
 rw [show ckO (os.getD i os0) = b84 (os.getD i os0).sg (os.getD i os0).sg.length 0 by unfold ckO; rw [if_neg c1, if_neg c2, if_neg c3]]
 refine Runs.mk a0k Tryz.call26 Tryz.func26 rfl Tryz.ntmps26 Tryz.results26 rfl ?_
 (repeat' (first
  | refine SP ?_
  | (apply a0a <;> intro hb <;> (try simp only [nS, nT, eq_self, reduceCtorEq] at hb) <;> (try (exfalso; omega)))
  | refine a0c ?_
  ))
 refine a0p (σ := Nat) (fun x => x <= (os.getD i os0).sg.length /\ b84 (os.getD i os0).sg ((os.getD i os0).sg.length - x) x = b84 (os.getD i os0).sg (os.getD i os0).sg.length 0) (fun x => ⟨[(1, .ptr 1 2 0 0), (25, .rsl 0 i 2 (os.getD i os0).sg.length (hd i)), (26, .val (.int .i64 (os.getD i os0).sg.length)), (27, .val (.int .i64 x))], [osR os hd, .var [.val (.int .i64 (os.getD i os0).ph), .rsl 0 i 2 (os.getD i os0).sg.length (hd i)]]⟩) (fun x => (os.getD i os0).sg.length - x) (0) ?_ ?_ ?_
 ·exact ⟨by omega, rfl⟩
 ·exact LT [some 0, some 1]
 rintro k ⟨hk, hke⟩
 by_cases hkl : k < (os.getD i os0).sg.length
 ·have hz : Int.toNat (k : Int) = k := Int.toNat_natCast k
  rw [show (os.getD i os0).sg.length - k = ((os.getD i os0).sg.length - (k + 1)) + 1 by omega, b84] at hke
  have hw : (IntKind.i64.wrap ((k : Int) - 1)).toNat = k - 1 := by rw [IntKind.wrap_i64]; omega
  have hcn : c48 (os.getD i os0).sg k = if ((os.getD i os0).sg.getD (Int.toNat (k : Int)) sg0).a < 0 \/ 1125899906842624 < ((os.getD i os0).sg.getD (Int.toNat (k : Int)) sg0).a \/ ((os.getD i os0).sg.getD (Int.toNat (k : Int)) sg0).p < -500000 \/ 500000 < ((os.getD i os0).sg.getD (Int.toNat (k : Int)) sg0).p then 3
    else if k = 0 /\ ((os.getD i os0).sg.getD (Int.toNat (k : Int)) sg0).a ≠ 0 then 7 else if 0 < k /\ ((os.getD i os0).sg.getD (Int.toNat (k : Int)) sg0).a <= ((os.getD i os0).sg.getD (IntKind.i64.wrap ((k : Int) - 1)).toNat sg0).a then 12 else 0 := by
   rw [hz, hw]; rfl
  (repeat' (first
  | refine SP ?_
  | (apply a0a <;> intro hb <;> (try simp only [nS, nT, eq_self, reduceCtorEq] at hb) <;> (try (exfalso; omega)))
  | refine a0q (by decide +kernel) ?_
  | refine a0c ?_
  | refine OB ?_
  | exact RT [some 0]
  | (apply a0i (Subtype.mk (k + 1) ⟨by omega, d0c hke (by rw [hcn, if_neg (by omega), if_neg (by omega), if_neg (by omega)])⟩); (focus exact LT [some 0, some 1]); (all_goals (try (first | (simp only; omega)))))
  ))
  all_goals first
   | exact ck_ret hke (by rw [hcn, if_pos (by omega)]) (by decide)
   | exact ck_ret hke (by rw [hcn, if_neg (by omega), if_pos (by omega)]) (by decide)
   | exact ck_ret hke (by rw [hcn, if_neg (by omega), if_neg (by omega), if_pos (by omega)]) (by decide)
 ·obtain rfl : k = (os.getD i os0).sg.length := by omega
  rw [Nat.sub_self, b84] at hke
  rw [<- hke]
  (repeat' (first
  | refine SP ?_
  | (apply a0a <;> intro hb <;> (try simp only [nS, nT, eq_self, reduceCtorEq] at hb) <;> (try (exfalso; omega)))
  | exact RT [some 0]
  ))
end Go.Vx.L58
set_option maxRecDepth 100000
namespace Go.Vx.L58
open Go Go.Proofs
structure Scn where
 n : Int
 l : List Ed
 c0 : Option Nat
 ns : List Nd
 c1 : Option Nat
 os : List Osc
 c2 : Option Nat
 hd : Nat -> Value
 dn : List Int
 c3 : Option Nat
 up : List Int
 c4 : Option Nat
 tr : List Bool
 c5 : Option Nat
 st : List Int
 c6 : Option Nat
def b9w : Bool -> List AV := fun b => [.sb b]
instance : FlatC b9w := ⟨fun x v h => by simp [b9w] at h; subst h; trivial⟩
abbrev blB (l : List Bool) : Blk := .arr false 4 1 l.length (a2e b9w false l)
abbrev osB (os : List Osc) (hd : Nat -> Value) : Blk := .arr false 45 2 os.length (osF 3 os hd)
abbrev scV (s : Scn) : List AV := [.val (.int .i64 s.n), .sl 0 4 0 s.l.length s.c0, .sl 1 6 0 s.ns.length s.c1, .sl 2 2 0 s.os.length s.c2, .sl 4 1 0 s.dn.length s.c3, .sl 5 1 0 s.up.length s.c4, .sl 6 1 0 s.tr.length s.c5, .sl 7 1 0 s.st.length s.c6]
abbrev scA (s : Scn) : AV := .agg (scV s)
abbrev scB (s : Scn) : List Blk := [gB s.l, ndB s.ns, osB s.os s.hd, osR s.os s.hd, iB false s.dn, iB false s.up, blB s.tr, iB false s.st]
structure SOk (s : Scn) : Prop where
 hl : s.l.length <= maxLen
 hn : s.ns.length <= maxLen
 hw : ∀ x, wfD (owD (s.ns.getD x nd0))
theorem a7v (x : Int) : Runs Tryz.prog 27 [.val (.int .i64 x)] [] (Det (.sb (decide (0 <= x /\ x <= 10000000000))) []) := by
 refine Runs.mk a0k Tryz.call27 Tryz.func27 rfl Tryz.ntmps27 Tryz.results27 rfl ?_
 (repeat' (first
  | refine SP ?_
  | (apply a0a <;> intro hb <;> (try simp only [nS, nT, eq_self, reduceCtorEq] at hb) <;> (try (exfalso; fail; done)))
  | (apply a0v []; (focus (iterate 2 (all_goals (repeat' (first | exact trivial | refine And.intro ?_ ?_ | refine a1m ?_ | refine a0w ?_ ))))); any_goals (apply a0e; rfl))
  ))
 all_goals (first | (rw [Bool.eq_iff_iff]; simp only [Bool.and_eq_true, Bool.or_eq_true, Bool.not_eq_true', Bool.not_eq_false', Bool.not_eq_true, decide_eq_true_eq, decide_eq_false_iff_not, beq_iff_eq, beq_eq_false_iff_ne, bne_iff_ne, ne_eq, Bool.false_eq_true, reduceCtorEq, true_iff, iff_true, false_iff, iff_false, not_and, not_or, eq_self, IntKind.wrap_i64]; first | omega | (constructor <;> intros <;> first | omega | (refine And.intro ?_ ?_ <;> omega))))
theorem b6f (x : Int) : Runs Tryz.prog 30 [.val (.int .i64 x)] [] (Det (.sb (decide (0 <= x /\ x <= 10000000000))) []) := by
 refine Runs.mk a0k Tryz.call30 Tryz.func30 rfl Tryz.ntmps30 Tryz.results30 rfl ?_
 (repeat' (first
  | refine SP ?_
  | (apply a0a <;> intro hb <;> (try simp only [nS, nT, eq_self, reduceCtorEq] at hb) <;> (try (exfalso; fail; done)))
  | (apply a0v []; (focus (iterate 2 (all_goals (repeat' (first | exact trivial | refine And.intro ?_ ?_ | refine a1m ?_ | refine a0w ?_ ))))); any_goals (apply a0e; rfl))
  ))
 all_goals (first | (rw [Bool.eq_iff_iff]; simp only [Bool.and_eq_true, Bool.or_eq_true, Bool.not_eq_true', Bool.not_eq_false', Bool.not_eq_true, decide_eq_true_eq, decide_eq_false_iff_not, beq_iff_eq, beq_eq_false_iff_ne, bne_iff_ne, ne_eq, Bool.false_eq_true, reduceCtorEq, true_iff, iff_true, false_iff, iff_false, not_and, not_or, eq_self, IntKind.wrap_i64]; first | omega | (constructor <;> intros <;> first | omega | (refine And.intro ?_ ?_ <;> omega))))
end Go.Vx.L58
set_option maxRecDepth 100000
namespace Go.Vx.L58
open Go Go.Proofs
structure Spn where
 a : Int
 p : Int
 e : Int
 deriving DecidableEq, Inhabited
def spC (x : Spn) : List AV := [.val (.int .i64 x.a), .val (.int .i64 x.p), .val (.int .i64 x.e)]
instance : FlatC spC := ⟨fun x v h => by simp [spC] at h; rcases h with rfl | rfl | rfl <;> trivial⟩
abbrev sp0 : Spn := ⟨0, 0, 0⟩
abbrev spB (rw : Bool) (l : List Spn) : Blk := .arr rw 231 3 l.length (a2e spC sp0 l)
def spE (sg : List Sg) (i : Nat) : Spn := ⟨(sg.getD i sg0).a, (sg.getD i sg0).p, if i + 1 < sg.length then (sg.getD (i + 1) sg0).a else 1125899906842624⟩
def spA (sg : List Sg) (k : Nat) : List Spn := (List.range sg.length).map fun i => if i < k then spE sg i else sp0
theorem a4r (sg : List Sg) (k : Nat) : (spA sg k).length = sg.length := by simp [spA]
theorem a3u (sg : List Sg) (k i : Nat) : (spA sg k).getD i sp0 = if i < sg.length /\ i < k then spE sg i else sp0 := by
 unfold spA
 rw [List.getD_eq_getElem?_getD, List.getElem?_map]
 by_cases h : i < sg.length
 ·rw [List.getElem?_range h]
  by_cases h2 : i < k
  ·rw [if_pos ⟨h, h2⟩]; simp [h2]
  ·rw [if_neg (fun h' => h2 h'.2)]; simp [h2]
 ·rw [List.getElem?_eq_none (by simpa using h), if_neg (fun h' => h h'.1)]; rfl
theorem b3q {ρ : Nat -> Option Nat} {α : Type} {cells : α -> List AV} [FlatC cells] {d : α} {rw : Bool} {t e n n' : Nat} {l l' : List α} {F : Nat -> Nat -> AV} (i : Nat)
  (ho : ∀ k, k ≠ i -> l'.getD k d = l.getD k d) (hF : ∀ j, j < e -> sub ρ (nth (cells (l'.getD i d)) j) (F i j)) (hF' : ∀ k, k ≠ i -> ∀ j, F k j = a2e cells d l k j) (hn : n' = n) :
  a3v ρ (.arr rw t e n (a2e cells d l')) (.arr true t e n' F) := by
 refine a2o (fun _ => rfl) hn fun k _ j hj => ?_
 by_cases h : k = i
 ·subst h; exact hF j hj
 ·rw [hF' k h j]
  show sub ρ (nth (cells (l'.getD k d)) j) (nth (cells (l.getD k d)) j)
  rw [ho k h]
  exact a5e FlatC.flat ρ _ j
theorem d1k {ρ : Nat -> Option Nat} {sg : List Sg} {k q n n' : Nat} {a p e : Int} (hq : q = k) (hk : k < sg.length) (ha : a = (spE sg k).a) (hp : p = (spE sg k).p) (he : e = (spE sg k).e) (hn : n' = n) :
  a3v ρ (.arr true 231 3 n (a2e spC sp0 (spA sg (k + 1)))) (.arr true 231 3 n' fun i' j' => bif Nat.beq i' q && (Nat.ble 0 j' && Nat.blt j' (0 + 3)) then [AV.val (.int .i64 a), .val (.int .i64 p), .val (.int .i64 e)].getD (j' - 0) .dead else a2e spC sp0 (spA sg k) i' j') := by
 subst hq ha hp he
 refine b3q q (l := spA sg q) (fun i hi => ?_) ?_ (fun i hi j => ?_) hn
 ·rw [a3u, a3u]
  by_cases h : i < sg.length /\ i < q
  ·rw [if_pos h, if_pos ⟨h.1, by omega⟩]
  ·rw [if_neg h, if_neg (fun h' => h ⟨h'.1, by omega⟩)]
 ·rw [a3u, if_pos ⟨hk, by omega⟩]
  refine c9e ?_ ?_ ?_ <;> (simp only [Nat.beq_refl]; exact a0b _ _)
 ·rw [show Nat.beq i q = false from a7f hi]; rfl
theorem c9p {ρ : Nat -> Option Nat} {sg : List Sg} {k q q' n n' : Nat} {a p e e' : Int} (hq : q = k) (hq' : q' = k) (hk : k < sg.length) (ha : a = (spE sg k).a) (hp : p = (spE sg k).p) (he : e' = (spE sg k).e) (hn : n' = n) :
  a3v ρ (.arr true 231 3 n (a2e spC sp0 (spA sg (k + 1)))) (.arr true 231 3 n' fun i' j' => bif Nat.beq i' q' && (Nat.ble (0 + 2) j' && Nat.blt j' (0 + 2 + 1)) then [AV.val (.int .i64 e')].getD (j' - (0 + 2)) .dead else
   bif Nat.beq i' q && (Nat.ble 0 j' && Nat.blt j' (0 + 3)) then [AV.val (.int .i64 a), .val (.int .i64 p), .val (.int .i64 e)].getD (j' - 0) .dead else a2e spC sp0 (spA sg k) i' j') := by
 subst hq' hq ha hp he
 refine b3q q (l := spA sg q) (fun i hi => ?_) ?_ (fun i hi j => ?_) hn
 ·rw [a3u, a3u]
  by_cases h : i < sg.length /\ i < q
  ·rw [if_pos h, if_pos ⟨h.1, by omega⟩]
  ·rw [if_neg h, if_neg (fun h' => h ⟨h'.1, by omega⟩)]
 ·rw [a3u, if_pos ⟨hk, by omega⟩]
  refine c9e ?_ ?_ ?_ <;> (simp only [Nat.beq_refl]; exact a0b _ _)
 ·rw [show Nat.beq i q = false from a7f hi]; rfl
structure SgOK (sg : List Sg) : Prop where
 l1 : 1 <= sg.length
 l2 : sg.length <= 16
 a0 : ∀ i, i < sg.length -> 0 <= (sg.getD i sg0).a /\ (sg.getD i sg0).a <= 1125899906842624
 p0 : ∀ i, i < sg.length -> -500000 <= (sg.getD i sg0).p /\ (sg.getD i sg0).p <= 500000
 z : (sg.getD 0 sg0).a = 0
 up : ∀ i, i + 1 < sg.length -> (sg.getD i sg0).a < (sg.getD (i + 1) sg0).a
theorem SgOK.lt {sg : List Sg} (h : SgOK sg) : ∀ (d i : Nat), i + d + 1 < sg.length -> (sg.getD i sg0).a < (sg.getD (i + d + 1) sg0).a
 | 0, i, hi => h.up i hi
 | d + 1, i, hi => by
  have h1 := h.lt d i (by omega)
  have h2 := h.up (i + d + 1) (by omega)
  have e : i + (d + 1) + 1 = i + d + 1 + 1 := by omega
  rw [e]; omega
theorem b8g {sg : List Sg} : ∀ (k i : Nat), b84 sg k i = 0 -> ∀ j, i <= j -> j < i + k -> c48 sg j = 0
 | 0, i, _, j, h1, h2 => by omega
 | k + 1, i, h, j, h1, h2 => by
  rw [b84] at h
  by_cases hc : c48 sg i ≠ 0
  ·rw [if_pos hc] at h; exact absurd h hc
  ·rw [if_neg hc] at h
   by_cases e : j = i
   ·rw [e]; omega
   ·exact b8g k (i + 1) h j (by omega) (by omega)
theorem a5v {o : Osc} (h : ckO o = 0) : SgOK o.sg /\ (-1125899906842624 <= o.ph /\ o.ph <= 1125899906842624) := by
 unfold ckO at h
 by_cases c1 : o.sg.length = 0
 ·rw [if_pos c1] at h; omega
 rw [if_neg c1] at h
 by_cases c2 : 16 < o.sg.length
 ·rw [if_pos c2] at h; omega
 rw [if_neg c2] at h
 by_cases c3 : o.ph < -1125899906842624 \/ 1125899906842624 < o.ph
 ·rw [if_pos c3] at h; omega
 rw [if_neg c3] at h
 have hall := b8g _ _ h
 have one : ∀ i, i < o.sg.length -> (0 <= (o.sg.getD i sg0).a /\ (o.sg.getD i sg0).a <= 1125899906842624 /\ -500000 <= (o.sg.getD i sg0).p /\ (o.sg.getD i sg0).p <= 500000) /\ (i = 0 -> (o.sg.getD i sg0).a = 0) /\ (0 < i -> (o.sg.getD (i - 1) sg0).a < (o.sg.getD i sg0).a) := fun i hi => by
  have h1 := hall i (Nat.zero_le _) (by omega)
  unfold c48 at h1
  by_cases d1 : (o.sg.getD i sg0).a < 0 \/ 1125899906842624 < (o.sg.getD i sg0).a \/ (o.sg.getD i sg0).p < -500000 \/ 500000 < (o.sg.getD i sg0).p
  ·rw [if_pos d1] at h1; omega
  rw [if_neg d1] at h1
  by_cases d2 : i = 0 /\ (o.sg.getD i sg0).a ≠ 0
  ·rw [if_pos d2] at h1; omega
  rw [if_neg d2] at h1
  by_cases d3 : 0 < i /\ (o.sg.getD i sg0).a <= (o.sg.getD (i - 1) sg0).a
  ·rw [if_pos d3] at h1; omega
  exact ⟨by omega, by omega, by omega⟩
 refine ⟨⟨by omega, by omega, fun i hi => ?_, fun i hi => ?_, (one 0 (by omega)).2.1 rfl, fun i hi => ?_⟩, by omega⟩
 ·have := (one i hi).1; omega
 ·have := (one i hi).1; omega
 ·have := (one (i + 1) hi).2.2 (by omega)
  rw [Nat.add_sub_cancel] at this; exact this
set_option maxHeartbeats 4000000 in
theorem c7h (os : List Osc) (hd : Nat -> Value) (i : Nat) (hi : i < os.length) (hs : SgOK (os.getD i os0).sg) :
  Runs Tryz.prog 127 [oA os hd i] [osR os hd] (Det (.sl 1 3 0 (os.getD i os0).sg.length none) [osR os hd, .arr true 231 3 (os.getD i os0).sg.length (a2e spC sp0 (spA (os.getD i os0).sg (os.getD i os0).sg.length))]) := by
 have l1 := hs.l1
 have l2 := hs.l2
 have hw : (IntKind.i64.wrap (((os.getD i os0).sg.length : Int) - 1)).toNat = (os.getD i os0).sg.length - 1 := by rw [IntKind.wrap_i64]; omega
 have hrep : spA (os.getD i os0).sg 0 = List.replicate (os.getD i os0).sg.length sp0 := by
  refine List.ext_getElem (by simp [spA]) fun k h1 h2 => ?_
  simp [spA]
 refine Runs.mk a0k Tryz.call127 Tryz.func127 rfl Tryz.ntmps127 Tryz.results127 rfl ?_
 (repeat' (first
  | refine SP ?_
  | refine a0c ?_
  | refine OB ?_
  ))
 refine a0p (σ := Nat) (fun x => x <= (os.getD i os0).sg.length) (fun x => ⟨[(1, .ptr 1 2 0 0), (3, .sl 2 3 0 (os.getD i os0).sg.length none), (4, .ptr 3 2 0 0), (20, .rsl 0 i 2 (os.getD i os0).sg.length (hd i)), (21, .val (.int .i64 (os.getD i os0).sg.length)), (22, .val (.int .i64 x))], [osR os hd, .var [.val (.int .i64 (os.getD i os0).ph), .rsl 0 i 2 (os.getD i os0).sg.length (hd i)], .arr true 231 3 (os.getD i os0).sg.length (a2e spC sp0 (spA (os.getD i os0).sg x)), .var [.val (.int .i64 ((os.getD i os0).sg.getD (IntKind.i64.wrap (((os.getD i os0).sg.length : Int) - 1)).toNat sg0).a), .val (.int .i64 ((os.getD i os0).sg.getD (IntKind.i64.wrap (((os.getD i os0).sg.length : Int) - 1)).toNat sg0).p)]]⟩) (fun x => (os.getD i os0).sg.length - x) (0) ?_ ?_ ?_
 ·omega
 ·(apply a04 [some 0, some 1, some 2, some 3]; (focus (iterate 2 (all_goals (repeat' (first | exact a54 rfl rfl | exact a1f rfl rfl rfl rfl | exact a0g | exact trivial | refine SP ?_ | refine And.intro ?_ ?_ | refine a0d ?_ ?_ | refine a09 ?_ | exact a0z rfl rfl | exact a0r rfl rfl rfl | exact a0b _ _ ))))); any_goals (apply a0e; rfl))
  all_goals exact a9r (x := sp0) (a0d (a0f rfl) (a0d (a0f rfl) (a0d (a0f rfl) a0g))) hrep rfl
 rintro k hk
 have hf : (sgR os i).1 = (os.getD i os0).sg.length := rfl
 by_cases hkl : k < (os.getD i os0).sg.length
 ·have hz : Int.toNat (k : Int) = k := Int.toNat_natCast k
  have hz2 : (IntKind.i64.wrap ((k : Int) + 1)).toNat = k + 1 := by rw [IntKind.wrap_i64]; omega
  by_cases hl : k + 1 = (os.getD i os0).sg.length
  ·have hla : (os.getD i os0).sg.getD (IntKind.i64.wrap (((os.getD i os0).sg.length : Int) - 1)).toNat sg0 = (os.getD i os0).sg.getD (Int.toNat (k : Int)) sg0 := by rw [hw, hz]; congr 1; omega
   rw [hla]
   (repeat' (first
  | refine SP ?_
  | (apply a0a <;> intro hb <;> (try simp only [nS, nT, eq_self, reduceCtorEq] at hb) <;> (try (exfalso; omega)))
  | refine a0c ?_
  | refine OB ?_
  | (apply a0i (Subtype.mk (k + 1) _); (focus (apply a04 [some 0, some 1, some 2, some 3]; (focus (iterate 2 (all_goals (repeat' (first | exact a54 rfl rfl | exact a1f rfl rfl rfl rfl | exact a0g | exact trivial | refine SP ?_ | refine And.intro ?_ ?_ | refine a0d ?_ ?_ | refine a09 ?_ | exact a0z rfl rfl | exact a0r rfl rfl rfl | exact a0b _ _ | ((refine a0f ?_); first | with_reducible rfl | omega | ((try simp only [wS]); omega) | rfl) ))))); any_goals (apply a0e; rfl))); (all_goals (try (first | omega | (simp only; omega)))))
  ))
   all_goals exact d1k (by omega) hkl (by rw [hz]; rfl) (by rw [hz]; rfl) (by unfold spE; rw [if_neg (by omega)]) rfl
  ·have hla := hs.lt ((os.getD i os0).sg.length - 1 - k - 1) k (by omega)
   have e : k + ((os.getD i os0).sg.length - 1 - k - 1) + 1 = (os.getD i os0).sg.length - 1 := by omega
   rw [e, <- hw, <- hz] at hla
   (repeat' (first
  | refine SP ?_
  | (apply a0a <;> intro hb <;> (try simp only [nS, nT, eq_self, reduceCtorEq] at hb) <;> (try (exfalso; omega)))
  | refine a0c ?_
  | refine OB ?_
  | (apply a0i (Subtype.mk (k + 1) _); (focus (apply a04 [some 0, some 1, some 2, some 3]; (focus (iterate 2 (all_goals (repeat' (first | exact a54 rfl rfl | exact a1f rfl rfl rfl rfl | exact a0g | exact trivial | refine SP ?_ | refine And.intro ?_ ?_ | refine a0d ?_ ?_ | refine a09 ?_ | exact a0z rfl rfl | exact a0r rfl rfl rfl | exact a0b _ _ | ((refine a0f ?_); first | with_reducible rfl | omega | ((try simp only [wS]); omega) | rfl) ))))); any_goals (apply a0e; rfl))); (all_goals (try (first | omega | (simp only; omega)))))
  ))
   all_goals exact c9p (by omega) (by omega) hkl (by rw [hz]; rfl) (by rw [hz]; rfl) (by unfold spE; rw [if_pos (by omega), hz2]; rfl) rfl
 ·obtain rfl : k = (os.getD i os0).sg.length := by omega
  (repeat' (first
  | refine SP ?_
  | (apply a0a <;> intro hb <;> (try simp only [nS, nT, eq_self, reduceCtorEq] at hb) <;> (try (exfalso; omega)))
  | exact RT [some 0, some 2]
  ))
end Go.Vx.L58
set_option maxRecDepth 100000
namespace Go.Vx.L58
open Go Go.Proofs
theorem tdm {a b : Int} (hb : 0 < b) : (0 <= a.tmod b -> a.tdiv b = a / b) /\ (a.tmod b < 0 -> a.tdiv b - 1 = a / b) /\ -b < a.tmod b /\ a.tmod b < b := by
 have h1 : b * a.tdiv b + a.tmod b = a := Int.mul_tdiv_add_tmod a b
 have h2 : a.tmod b < b := Int.tmod_lt_of_pos a hb
 have h3 : -b < a.tmod b := by
  have h := Int.tmod_lt_of_pos (-a) hb
  rw [Int.neg_tmod] at h
  omega
 refine ⟨fun h => ?_, fun h => ?_, h3, h2⟩
 ·exact ((Int.ediv_emod_unique hb).2 ⟨by rw [Int.add_comm]; exact h1, h, h2⟩).1.symm
 ·refine ((Int.ediv_emod_unique (r := a.tmod b + b) hb).2 ⟨?_, by omega, by omega⟩).1.symm
  rw [Int.mul_sub, Int.mul_one]; omega
theorem c9c {a b : Int} (ha : -9223372036854775808 <= a /\ a <= 9223372036854775807) (hb : 0 < b) : -9223372036854775808 <= a.tdiv b /\ a.tdiv b <= 9223372036854775807 := by
 have h1 : a.natAbs / b.natAbs <= a.natAbs := Nat.div_le_self _ _
 have h2 : (a.tdiv b).natAbs = a.natAbs / b.natAbs := Int.natAbs_tdiv a b
 rcases Int.lt_or_le a 0 with h | h
 ·have : a.tdiv b <= 0 := by
   have := Int.tdiv_nonneg (a := -a) (b := b) (by omega) (by omega)
   rw [Int.neg_tdiv] at this; omega
  omega
 ·have := Int.tdiv_nonneg (a := a) (b := b) h (by omega)
  omega
theorem b07 (a b : Int) (ha : -9223372036854775808 <= a /\ a <= 9223372036854775807) (h2 : 0 < b) (h3 : b <= 9223372036854775807) :
  Runs Tryz.prog 158 [.val (.int .i64 a), .val (.int .i64 b)] [] (Det (.tup [.val (.int .i64 (a.tdiv b)), .val (.int .i64 (a.tmod b)), .sb true]) []) := by
 refine Runs.mk a0k Tryz.call158 Tryz.func158 rfl Tryz.ntmps158 Tryz.results158 rfl ?_
 (repeat' (first
  | refine SP ?_
  | (apply a0a <;> intro hb <;> (try simp only [nS, nT, eq_self, reduceCtorEq] at hb) <;> (try (exfalso; omega)))
  | refine a0q (by decide +kernel) ?_
  | refine a0c ?_
  | refine OB ?_
  | (apply a0v []; (focus (iterate 2 (all_goals (repeat' (first | exact a0g | exact trivial | refine And.intro ?_ ?_ | refine a0d ?_ ?_ | refine a1c ?_ | exact a0b _ _ | exact a0w rfl | refine a0f ?_ ))))); any_goals (apply a0e; rfl))
  ))
 all_goals (rw [IntKind.wrap_i64]; have := c9c ha h2; omega)
theorem b3s (a b : Int) (ha : -9223372036854775808 <= a /\ a <= 9223372036854775807) (h2 : 1 < b) (h3 : b <= 9223372036854775807) :
  Runs Tryz.prog 131 [.val (.int .i64 a), .val (.int .i64 b)] [] (Det (.tup [.val (.int .i64 (a / b)), .sb true]) []) := by
 have hd := b07 a b ha (by omega) h3
 obtain ⟨h4, h5, h6, h7⟩ := tdm (a := a) (b := b) (by omega)
 have hb0 : ¬ b < 0 := by omega
 have hq : -4611686018427387905 <= a / b /\ a / b <= 4611686018427387905 := by
  have := Int.ediv_mul_add_emod a b
  have h8 := Int.emod_nonneg a (show b ≠ 0 by omega)
  have h9 : (a / b) * b <= a := by omega
  rcases Int.lt_or_le (a / b) 0 with h | h
  ·have : (a / b) * b <= (a / b) * 2 := Int.mul_le_mul_of_nonpos_left (by omega) (by omega)
   have h10 := Int.emod_lt_of_pos a (show 0 < b by omega)
   have h11 := Int.lt_ediv_add_one_mul_self a (show 0 < b by omega)
   have : -(a / b) * 2 <= -(a / b) * b := Int.mul_le_mul_of_nonneg_left (by omega) (by omega)
   have : (a / b + 1) * b <= (a / b + 1) * 2 := Int.mul_le_mul_of_nonpos_left (by omega) (by omega)
   omega
  ·have : (a / b) * 2 <= (a / b) * b := Int.mul_le_mul_of_nonneg_left (by omega) (by omega)
   omega
 generalize a.tdiv b = q at *
 generalize a.tmod b = r at *
 generalize a / b = z at *
 by_cases hr : r < 0
 ·have hz := h5 hr
  have hr1 : decide (r < 0) = true := decide_eq_true hr
  have hr2 : decide (b < 0) = false := decide_eq_false hb0
  refine Runs.mk a0k Tryz.call131 Tryz.func131 rfl Tryz.ntmps131 Tryz.results131 rfl ?_
  (repeat' (first
  | refine SP ?_
  | (apply a0a <;> intro hb <;> (try simp only [nS, nT, eq_self, reduceCtorEq] at hb) <;> (try (exfalso; omega)))
  | refine a0c ?_
  | ((first | apply a0t (hd) ); exact AS)
  | (apply a0v []; (focus (iterate 2 (all_goals (repeat' (first | exact a0g | exact trivial | refine And.intro ?_ ?_ | refine a0d ?_ ?_ | refine a1c ?_ | exact a1m rfl | ((refine a0f ?_); first | with_reducible rfl | omega | ((try simp only [wS]); omega) | rfl) | refine a0f ?_ ))))); any_goals (apply a0e; rfl))
  ))
  all_goals first | (exfalso; rw [hr1, hr2] at hb; first | exact hb rfl | cases hb) | (rw [IntKind.wrap_i64]; omega)
 ·have hz := h4 (by omega)
  have hr1 : decide (r < 0) = false := decide_eq_false hr
  have hr2 : decide (b < 0) = false := decide_eq_false hb0
  refine Runs.mk a0k Tryz.call131 Tryz.func131 rfl Tryz.ntmps131 Tryz.results131 rfl ?_
  (repeat' (first
  | refine SP ?_
  | (apply a0a <;> intro hb <;> (try simp only [nS, nT, eq_self, reduceCtorEq] at hb) <;> (try (exfalso; omega)))
  | refine a0c ?_
  | ((first | apply a0t (hd) ); exact AS)
  | (apply a0v []; (focus (iterate 2 (all_goals (repeat' (first | exact a0g | exact trivial | refine And.intro ?_ ?_ | refine a0d ?_ ?_ | refine a1c ?_ | exact a1m rfl | ((refine a0f ?_); first | with_reducible rfl | omega | ((try simp only [wS]); omega) | rfl) | refine a0f ?_ ))))); any_goals (apply a0e; rfl))
  ))
  all_goals first | (exfalso; rw [hr1, hr2] at hb; first | exact hb rfl | cases hb) | (rw [IntKind.wrap_i64]; omega)
def dF (t : Int) (x : Spn) : Int := if (if x.e < t then x.e else t) - x.a > 0 then (if x.e < t then x.e else t) - x.a else 0
def whS (t : Int) (l : List Spn) : Nat -> Int
 | 0 => 0
 | k + 1 => whS t l k + (l.getD k sp0).p * (dF t (l.getD k sp0) / 1000000000)
def rsS (t : Int) (l : List Spn) : Nat -> Int
 | 0 => 0
 | k + 1 => rsS t l k + (l.getD k sp0).p * (dF t (l.getD k sp0) % 1000000000)
structure SpOK (l : List Spn) : Prop where
 len : l.length <= 16
 a0 : ∀ i, i < l.length -> 0 <= (l.getD i sp0).a /\ (l.getD i sp0).a <= 1125899906842624
 e0 : ∀ i, i < l.length -> 0 <= (l.getD i sp0).e /\ (l.getD i sp0).e <= 1125899906842624
 p0 : ∀ i, i < l.length -> -500000 <= (l.getD i sp0).p /\ (l.getD i sp0).p <= 500000
theorem b0v {p d B : Int} (hp : -500000 <= p /\ p <= 500000) (hd : 0 <= d /\ d <= B) : -(500000 * B) <= p * d /\ p * d <= 500000 * B := by
 have h1 : p * d <= 500000 * d := Int.mul_le_mul_of_nonneg_right hp.2 hd.1
 have h2 : -500000 * d <= p * d := Int.mul_le_mul_of_nonneg_right hp.1 hd.1
 omega
theorem d4h {t : Int} (ht : 0 <= t /\ t <= 1125899906842624) {x : Spn} (ha : 0 <= x.a /\ x.a <= 1125899906842624) (he : 0 <= x.e /\ x.e <= 1125899906842624) : 0 <= dF t x /\ dF t x <= 1125899906842624 := by
 unfold dF
 split <;> split <;> omega
theorem b17 {t : Int} (ht : 0 <= t /\ t <= 1125899906842624) {l : List Spn} (h : SpOK l) : ∀ k, k <= l.length -> -(563000000000 * (k : Int)) <= whS t l k /\ whS t l k <= 563000000000 * (k : Int)
 | 0, _ => by simp [whS]
 | k + 1, hk => by
  have ih := b17 ht h k (by omega)
  have hd := d4h ht (h.a0 k (by omega)) (h.e0 k (by omega))
  have hq : 0 <= dF t (l.getD k sp0) / 1000000000 /\ dF t (l.getD k sp0) / 1000000000 <= 1125899 := by omega
  have hm := b0v (h.p0 k (by omega)) hq
  rw [whS]
  omega
theorem b1q {t : Int} (ht : 0 <= t /\ t <= 1125899906842624) {l : List Spn} (h : SpOK l) : ∀ k, k <= l.length -> -(500000000000000 * (k : Int)) <= rsS t l k /\ rsS t l k <= 500000000000000 * (k : Int)
 | 0, _ => by simp [rsS]
 | k + 1, hk => by
  have ih := b1q ht h k (by omega)
  have hm := b0v (h.p0 k (by omega)) (d := dF t (l.getD k sp0) % 1000000000) (B := 1000000000) (by omega)
  rw [rsS]
  omega
set_option maxHeartbeats 4000000 in
theorem a8i (ph : Int) (hph : -1125899906842624 <= ph /\ ph <= 1125899906842624) (l : List Spn) (hl : SpOK l) (cap : Option Nat) (t : Int) (ht : 0 <= t /\ t <= 1125899906842624) :
  Runs Tryz.prog 126 [.val (.int .i64 ph), .sl 0 3 0 l.length cap, .val (.int .i64 t)] [spB false l] (Det (.val (.int .i64 (ph + t + whS t l l.length + rsS t l l.length / 1000000000))) [spB false l]) := by
 have hlen := hl.len
 refine Runs.mk a0k Tryz.call126 Tryz.func126 rfl Tryz.ntmps126 Tryz.results126 rfl ?_
 (repeat' (first
  | refine SP ?_
  | refine a0c ?_
  ))
 refine a0p (σ := Nat) (fun x => x <= l.length) (fun x => ⟨[(0, .val (.int .i64 ph)), (2, .val (.int .i64 t)), (7, .val (.int .i64 (whS t l x))), (8, .val (.int .i64 (rsS t l x))), (14, .sl 0 3 0 l.length cap), (15, .val (.int .i64 l.length)), (16, .val (.int .i64 x))], [spB false l]⟩) (fun x => l.length - x) (0) ?_ ?_ ?_
 ·omega
 ·exact LT [some 0]
 rintro k hk
 have w1 := b17 ht hl k hk
 have r1 := b1q ht hl k hk
 by_cases hkl : k < l.length
 ·have hz : 0 + Int.toNat (k : Int) = k := by omega
  have w2 := b17 ht hl (k + 1) hkl
  have r2 := b1q ht hl (k + 1) hkl
  have hd := d4h ht (hl.a0 k hkl) (hl.e0 k hkl)
  have ha := hl.a0 k hkl
  have he := hl.e0 k hkl
  have hm1 := b0v (hl.p0 k (by omega)) (d := dF t (l.getD k sp0) / 1000000000) (B := 1125899) (by omega)
  have hm2 := b0v (hl.p0 k (by omega)) (d := dF t (l.getD k sp0) % 1000000000) (B := 1000000000) (by omega)
  have hws : whS t l (k + 1) = whS t l k + (l.getD k sp0).p * (dF t (l.getD k sp0) / 1000000000) := rfl
  have hrs : rsS t l (k + 1) = rsS t l k + (l.getD k sp0).p * (dF t (l.getD k sp0) % 1000000000) := rfl
  have e1 : IntKind.i64.wrap ((if (l.getD (0 + Int.toNat (k : Int)) sp0).e < t then (l.getD (0 + Int.toNat (k : Int)) sp0).e else t) - (l.getD (0 + Int.toNat (k : Int)) sp0).a) = (if (l.getD k sp0).e < t then (l.getD k sp0).e else t) - (l.getD k sp0).a := by
   rw [hz, IntKind.wrap_i64]; split <;> omega
  have e2 : (if IntKind.i64.wrap ((if (l.getD (0 + Int.toNat (k : Int)) sp0).e < t then (l.getD (0 + Int.toNat (k : Int)) sp0).e else t) - (l.getD (0 + Int.toNat (k : Int)) sp0).a) > 0 then IntKind.i64.wrap ((if (l.getD (0 + Int.toNat (k : Int)) sp0).e < t then (l.getD (0 + Int.toNat (k : Int)) sp0).e else t) - (l.getD (0 + Int.toNat (k : Int)) sp0).a) else 0) = dF t (l.getD k sp0) := by
   rw [e1]; rfl
  generalize hD : dF t (l.getD k sp0) = D at *
  have e3 : D.tdiv 1000000000 = D / 1000000000 := Int.tdiv_eq_ediv_of_nonneg hd.1
  have e4 : D.tmod 1000000000 = D % 1000000000 := Int.tmod_eq_emod_of_nonneg hd.1
  have e5 : IntKind.i64.wrap (D / 1000000000) = D / 1000000000 := by rw [IntKind.wrap_i64]; omega
  have q1 : IntKind.i64.wrap (whS t l k + IntKind.i64.wrap ((l.getD (0 + Int.toNat (k : Int)) sp0).p * IntKind.i64.wrap (D.tdiv 1000000000))) = whS t l (k + 1) := by
   rw [hz, e3, e5, hws, IntKind.wrap_i64, IntKind.wrap_i64]; omega
  have q2 : IntKind.i64.wrap (rsS t l k + IntKind.i64.wrap ((l.getD (0 + Int.toNat (k : Int)) sp0).p * D.tmod 1000000000)) = rsS t l (k + 1) := by
   rw [hz, e4, hrs, IntKind.wrap_i64, IntKind.wrap_i64]; omega
  (repeat' (first
  | refine SP ?_
  | (apply a0a <;> intro hb <;> (try simp only [nS, nT, eq_self, reduceCtorEq] at hb) <;> (try (exfalso; omega)))
  | refine a0c ?_
  | refine OB ?_
  | (apply a0i (Subtype.mk (k + 1) _); (focus (apply a04 [some 0]; (focus (iterate 2 (all_goals (repeat' (first | exact trivial | refine SP ?_ | refine And.intro ?_ ?_ | exact a0r rfl rfl rfl | exact a0b _ _ | exact a0j rfl rfl rfl | ((refine a0f ?_); first | with_reducible rfl | omega | ((try simp only [wS]); omega) | rfl) | refine a0f ?_ ))))); any_goals (apply a0e; rfl))); (all_goals (try (first | omega | (simp only; omega)))))
  ))
  all_goals first
   | (rw [e2]; exact q1)
   | (rw [e2]; exact q2)
 ·obtain rfl : k = l.length := by omega
  have hf := b3s (rsS t l l.length) 1000000000 (by omega) (by omega) (by omega)
  (repeat' (first
  | refine SP ?_
  | (apply a0a <;> intro hb <;> (try simp only [nS, nT, eq_self, reduceCtorEq] at hb) <;> (try (exfalso; omega)))
  | ((first | apply a0t (hf) ); exact AS)
  | exact RT [some 0]
  ))
  all_goals (rw [IntKind.wrap_i64, IntKind.wrap_i64, IntKind.wrap_i64]; omega)
end Go.Vx.L58
set_option maxRecDepth 100000
namespace Go.Vx.L58
open Go Go.Proofs
theorem b5j {sg : List Sg} (h : SgOK sg) : SpOK (spA sg sg.length) where
 len := by rw [a4r]; exact h.l2
 a0 := fun i hi => by
  rw [a4r] at hi
  rw [a3u, if_pos ⟨hi, hi⟩]; exact h.a0 i hi
 e0 := fun i hi => by
  rw [a4r] at hi
  rw [a3u, if_pos ⟨hi, hi⟩]
  unfold spE
  simp only
  split
  ·exact h.a0 (i + 1) (by omega)
  ·omega
 p0 := fun i hi => by
  rw [a4r] at hi
  rw [a3u, if_pos ⟨hi, hi⟩]; exact h.p0 i hi
def rdF (o : Osc) (t : Int) : Int := o.ph + t + whS t (spA o.sg o.sg.length) o.sg.length + rsS t (spA o.sg o.sg.length) o.sg.length / 1000000000
theorem b1y {o : Osc} (h : ckO o = 0) {t : Int} (ht : 0 <= t /\ t <= 1125899906842624) : -2260810000000000 <= rdF o t /\ rdF o t <= 2260810000000000 := by
 obtain ⟨h1, h2⟩ := a5v h
 have hs := b5j h1
 have hl := a4r o.sg o.sg.length
 have h3 := b17 ht hs o.sg.length (by omega)
 have h4 := b1q ht hs o.sg.length (by omega)
 have h5 := h1.l2
 unfold rdF
 omega
set_option maxHeartbeats 4000000 in
theorem c5n (os : List Osc) (hd : Nat -> Value) (i : Nat) (hi : i < os.length) (hc : ckO (os.getD i os0) = 0) (t : Int) (ht : 0 <= t /\ t <= 1125899906842624) :
  Runs Tryz.prog 85 [oA os hd i, .val (.int .i64 t)] [osR os hd] (Det (.tup [.val (.int .i64 (rdF (os.getD i os0) t)), .val (.int .i64 0)]) [osR os hd]) := by
 have hck := b0g os hd i hi
 rw [hc] at hck
 obtain ⟨h1, h2⟩ := a5v hc
 have hsp := c7h os hd i hi h1
 have hrd := a8i (os.getD i os0).ph h2 _ (b5j h1) none t ht
 rw [a4r] at hrd
 unfold spB at hrd
 rw [a4r] at hrd
 unfold rdF
 refine Runs.mk a0k Tryz.call85 Tryz.func85 rfl Tryz.ntmps85 Tryz.results85 rfl ?_
 (repeat' (first
  | refine SP ?_
  | (apply a0a <;> intro hb <;> (try simp only [nS, nT, eq_self, reduceCtorEq] at hb) <;> (try (exfalso; omega)))
  | refine a0q (by decide +kernel) ?_
  | refine a0c ?_
  | refine CT [some 0] hck ?_
  | ((first | apply a0m [some 0] (hsp)); exact AS; (any_goals (first | (apply a0s; rfl) )))
  | ((first | apply a0m [some 2] (hrd)); exact AS; (any_goals (first | (apply a0s; rfl) )))
  | exact RT [some 0]
  ))
def rtP (sg : List Sg) (t : Int) : Nat -> Int
 | 0 => (sg.getD 0 sg0).p
 | k + 1 => if (sg.getD k sg0).a <= t then (sg.getD k sg0).p else rtP sg t k
def rtF (o : Osc) (t : Int) : Int := rtP o.sg t o.sg.length
theorem b4n {sg : List Sg} (h : SgOK sg) (t : Int) : ∀ k, k <= sg.length -> -500000 <= rtP sg t k /\ rtP sg t k <= 500000
 | 0, _ => h.p0 0 h.l1
 | k + 1, hk => by
  rw [rtP]
  split
  ·exact h.p0 k hk
  ·exact b4n h t k (by omega)
set_option maxHeartbeats 4000000 in
theorem c4u (os : List Osc) (hd : Nat -> Value) (i : Nat) (hi : i < os.length) (hc : ckO (os.getD i os0) = 0) (t : Int) :
  Runs Tryz.prog 87 [oA os hd i, .val (.int .i64 t)] [osR os hd] (Det (.val (.int .i64 (rtF (os.getD i os0) t))) [osR os hd]) := by
 have hck := b0g os hd i hi
 rw [hc] at hck
 obtain ⟨h1, h2⟩ := a5v hc
 have l1 := h1.l1
 have l2 := h1.l2
 have hf : (sgR os i).1 = (os.getD i os0).sg.length := rfl
 unfold rtF
 have h0 : rtP (os.getD i os0).sg t 0 = ((os.getD i os0).sg.getD 0 sg0).p := rfl
 refine Runs.mk a0k Tryz.call87 Tryz.func87 rfl Tryz.ntmps87 Tryz.results87 rfl ?_
 (repeat' (first
  | refine SP ?_
  | (apply a0a <;> intro hb <;> (try simp only [nS, nT, eq_self, reduceCtorEq] at hb) <;> (try (exfalso; omega)))
  | refine a0c ?_
  | refine OB ?_
  | refine CT [some 0] hck ?_
  ))
 refine a0p (σ := Nat) (fun x => x <= (os.getD i os0).sg.length) (fun x => ⟨[(1, .val (.int .i64 t)), (5, .val (.int .i64 (rtP (os.getD i os0).sg t x))), (17, .rsl 0 i 2 (os.getD i os0).sg.length (hd i)), (18, .val (.int .i64 (os.getD i os0).sg.length)), (19, .val (.int .i64 x))], [osR os hd]⟩) (fun x => (os.getD i os0).sg.length - x) (0) ?_ ?_ ?_
 ·omega
 ·exact LT [some 0]
 rintro k hk
 by_cases hkl : k < (os.getD i os0).sg.length
 ·have hz : Int.toNat (k : Int) = k := Int.toNat_natCast k
  have hs : rtP (os.getD i os0).sg t (k + 1) = if ((os.getD i os0).sg.getD (Int.toNat (k : Int)) sg0).a <= t then ((os.getD i os0).sg.getD (Int.toNat (k : Int)) sg0).p else rtP (os.getD i os0).sg t k := by rw [hz]; rfl
  generalize hq : rtP (os.getD i os0).sg t (k + 1) = q' at *
  generalize rtP (os.getD i os0).sg t k = q at *
  by_cases h : ((os.getD i os0).sg.getD (Int.toNat (k : Int)) sg0).a <= t
  ·rw [if_pos h] at hs
   (repeat' (first
  | refine SP ?_
  | (apply a0a <;> intro hb <;> (try simp only [nS, nT, eq_self, reduceCtorEq] at hb) <;> (try (exfalso; omega)))
  | refine a0c ?_
  | refine OB ?_
  | (apply a0i (Subtype.mk (k + 1) (by first | omega | (simp only; omega))); (focus (rw [hq, hs]; exact LT [some 0])); (all_goals (try (first | (simp only; omega)))))
  ))
  ·rw [if_neg h] at hs
   (repeat' (first
  | refine SP ?_
  | (apply a0a <;> intro hb <;> (try simp only [nS, nT, eq_self, reduceCtorEq] at hb) <;> (try (exfalso; omega)))
  | refine a0c ?_
  | refine OB ?_
  | (apply a0i (Subtype.mk (k + 1) (by first | omega | (simp only; omega))); (focus (rw [hq, hs]; exact LT [some 0])); (all_goals (try (first | (simp only; omega)))))
  ))
 ·obtain rfl : k = (os.getD i os0).sg.length := by omega
  (repeat' (first
  | refine SP ?_
  | (apply a0a <;> intro hb <;> (try simp only [nS, nT, eq_self, reduceCtorEq] at hb) <;> (try (exfalso; omega)))
  | exact RT [some 0]
  ))
end Go.Vx.L58
set_option maxRecDepth 100000
namespace Go.Vx.L58
open Go Go.Proofs
def fwO (os : List Osc) : Nat -> Bool
 | 0 => true
 | k + 1 => fwO os k && decide ((os.getD k os0).sg.length <= 100)
theorem c8b {os : List Osc} {i : Nat} (h : ¬ (os.getD i os0).sg.length <= 100) : ∀ k, i < k -> fwO os k = false
 | 0, hk => by omega
 | k + 1, hk => by
  rw [fwO]
  by_cases e : i = k
  ·subst e; rw [decide_eq_false h, Bool.and_false]
  ·rw [c8b h k (by omega), Bool.false_and]
def d1p (s : Scn) : Bool := decide (s.ns.length <= 24 /\ s.l.length <= 100 /\ s.os.length <= 100 /\ s.dn.length <= 200 /\ s.up.length <= 200 /\ s.tr.length <= 100 /\ s.st.length <= 100) && fwO s.os s.os.length
set_option maxHeartbeats 4000000 in
theorem d3m (s : Scn) : Runs Tryz.prog 8 [scA s] (scB s) (Det (.sb (d1p s)) (scB s)) := by
 by_cases h : s.ns.length <= 24 /\ s.l.length <= 100 /\ s.os.length <= 100 /\ s.dn.length <= 200 /\ s.up.length <= 200 /\ s.tr.length <= 100 /\ s.st.length <= 100
 rotate_left
 ·have e : d1p s = false := by unfold d1p; rw [decide_eq_false h]; rfl
  rw [e]
  refine Runs.mk a0k Tryz.call8 Tryz.func8 rfl Tryz.ntmps8 Tryz.results8 rfl ?_
  (repeat' (first
  | refine SP ?_
  | (apply a0a <;> intro hb <;> (try simp only [nS, nT, eq_self, reduceCtorEq] at hb) <;> (try (exfalso; omega)))
  | refine a0c ?_
  | exact RT [some 0, some 1, some 2, some 3, some 4, some 5, some 6, some 7]
  ))
 have e : d1p s = fwO s.os s.os.length := by unfold d1p; rw [decide_eq_true h]; rfl
 rw [e]
 refine Runs.mk a0k Tryz.call8 Tryz.func8 rfl Tryz.ntmps8 Tryz.results8 rfl ?_
 (repeat' (first
  | refine SP ?_
  | (apply a0a <;> intro hb <;> (try simp only [nS, nT, eq_self, reduceCtorEq] at hb) <;> (try (exfalso; omega)))
  | refine a0c ?_
  ))
 refine a0p (σ := Nat) (fun x => x <= s.os.length /\ fwO s.os x = true) (fun x => ⟨[(49, .sl 2 2 0 s.os.length s.c2), (50, .val (.int .i64 s.os.length)), (51, .val (.int .i64 x))], [gB s.l, ndB s.ns, osB s.os s.hd, osR s.os s.hd, iB false s.dn, iB false s.up, blB s.tr, iB false s.st]⟩) (fun x => s.os.length - x) (0) ?_ ?_ ?_
 ·exact ⟨by omega, rfl⟩
 ·exact LT [some 0, some 1, some 2, some 3, some 4, some 5, some 6, some 7]
 rintro k ⟨hk, hke⟩
 by_cases hkl : k < s.os.length
 ·have hz : 0 + Int.toNat (k : Int) = k := by omega
  by_cases hb : (s.os.getD (0 + Int.toNat (k : Int)) os0).sg.length <= 100
  ·have hn : fwO s.os (k + 1) = true := by rw [fwO, hke, decide_eq_true (by rw [hz] at hb; exact hb)]; rfl
   (repeat' (first
  | refine SP ?_
  | (apply a0a <;> intro hb <;> (try simp only [nS, nT, eq_self, reduceCtorEq] at hb) <;> (try (exfalso; omega)))
  | refine a0c ?_
  | refine OB ?_
  | (apply a0i (Subtype.mk (k + 1) ⟨by omega, hn⟩); (focus exact LT [some 0, some 1, some 2, some 3, some 4, some 5, some 6, some 7]); (all_goals (try (first | (simp only; omega)))))
  ))
  ·have hn : fwO s.os s.os.length = false := c8b (by rw [hz] at hb; exact hb) _ hkl
   rw [hn]
   (repeat' (first
  | refine SP ?_
  | (apply a0a <;> intro hb <;> (try simp only [nS, nT, eq_self, reduceCtorEq] at hb) <;> (try (exfalso; omega)))
  | refine a0c ?_
  | refine OB ?_
  | exact RT [some 0, some 1, some 2, some 3, some 4, some 5, some 6, some 7]
  ))
 ·obtain rfl : k = s.os.length := by omega
  rw [hke]
  (repeat' (first
  | refine SP ?_
  | (apply a0a <;> intro hb <;> (try simp only [nS, nT, eq_self, reduceCtorEq] at hb) <;> (try (exfalso; omega)))
  | exact RT [some 0, some 1, some 2, some 3, some 4, some 5, some 6, some 7]
  ))
def dly (n : Int) : Bool := decide (0 <= n /\ n <= 10000000000)
def b3y (s : Scn) : Nat -> Nat -> Int
 | 0, _ => 0
 | k + 1, i => if ckO (s.os.getD i os0) ≠ 0 then ckO (s.os.getD i os0) else if dly (s.st.getD i 0) = false then 3 else b3y s k (i + 1)
def b6s (s : Scn) : Nat -> Nat -> Int
 | 0, _ => 0
 | k + 1, i => if dly (s.dn.getD i 0) = false \/ dly (s.up.getD i 0) = false then 3 else b6s s k (i + 1)
def ckS (s : Scn) : Int := if ckE s.n s.l s.ns ≠ 0 then ckE s.n s.l s.ns else
 if ¬ (s.os.length = s.ns.length /\ s.tr.length = s.ns.length /\ s.st.length = s.ns.length /\ s.dn.length = s.l.length /\ s.up.length = s.l.length) then 7 else
 if b3y s s.os.length 0 ≠ 0 then b3y s s.os.length 0 else b6s s s.l.length 0
set_option maxHeartbeats 4000000 in
theorem b5u (s : Scn) (ok : SOk s) : Runs Tryz.prog 12 [scA s] (scB s) (Det (.val (.int .i64 (ckS s))) (scB s)) := by
 have hmx : maxLen = 9223372036854775807 := by decide
 have hck := b41 s.n s.l s.c0 ok.hl s.ns s.c1 ok.hn
 by_cases hc : ckE s.n s.l s.ns = 0
 rotate_left
 ·have e : ckS s = ckE s.n s.l s.ns := by unfold ckS; rw [if_pos hc]
  rw [e]
  generalize ckE s.n s.l s.ns = c at *
  refine Runs.mk a0k Tryz.call12 Tryz.func12 rfl Tryz.ntmps12 Tryz.results12 rfl ?_
  (repeat' (first
  | refine SP ?_
  | (apply a0a <;> intro hb <;> (try simp only [nS, nT, eq_self, reduceCtorEq] at hb) <;> (try (exfalso; omega)))
  | refine a0c ?_
  | refine CT [some 0, some 1] hck ?_
  | exact RT [some 0, some 1, some 2, some 3, some 4, some 5, some 6, some 7]
  ))
 rw [hc] at hck
 by_cases hL : s.os.length = s.ns.length /\ s.tr.length = s.ns.length /\ s.st.length = s.ns.length /\ s.dn.length = s.l.length /\ s.up.length = s.l.length
 rotate_left
 ·have e : ckS s = 7 := by unfold ckS; rw [if_neg (by omega), if_pos hL]
  rw [e]
  refine Runs.mk a0k Tryz.call12 Tryz.func12 rfl Tryz.ntmps12 Tryz.results12 rfl ?_
  (repeat' (first
  | refine SP ?_
  | (apply a0a <;> intro hb <;> (try simp only [nS, nT, eq_self, reduceCtorEq] at hb) <;> (try (exfalso; omega)))
  | refine a0q (by decide +kernel) ?_
  | refine a0c ?_
  | refine CT [some 0, some 1] hck ?_
  | exact RT [some 0, some 1, some 2, some 3, some 4, some 5, some 6, some 7]
  ))
 obtain ⟨L1, L2, L3, L4, L5⟩ := hL
 have e : ckS s = if b3y s s.os.length 0 ≠ 0 then b3y s s.os.length 0 else b6s s s.l.length 0 := by unfold ckS; rw [if_neg (by omega), if_neg (by omega)]
 rw [e]
 clear e
 have hl := ok.hl
 have hn := ok.hn
 refine Runs.mk a0k Tryz.call12 Tryz.func12 rfl Tryz.ntmps12 Tryz.results12 rfl ?_
 (repeat' (first
  | refine SP ?_
  | (apply a0a <;> intro hb <;> (try simp only [nS, nT, eq_self, reduceCtorEq] at hb) <;> (try (exfalso; omega)))
  | refine a0q (by decide +kernel) ?_
  | refine a0c ?_
  | refine CT [some 0, some 1] hck ?_
  ))
 refine a0p (σ := Nat) (fun x => x <= s.os.length /\ b3y s (s.os.length - x) x = b3y s s.os.length 0) (fun x => ⟨[(1, .ptr 8 8 0 0), (5, .val (.int .i64 s.l.length)), (59, .sl 2 2 0 s.os.length s.c2), (60, .val (.int .i64 s.os.length)), (61, .val (.int .i64 x))], [gB s.l, ndB s.ns, osB s.os s.hd, osR s.os s.hd, iB false s.dn, iB false s.up, blB s.tr, iB false s.st, .var (scV s)]⟩) (fun x => s.os.length - x) (0) ?_ ?_ ?_
 ·exact ⟨by omega, rfl⟩
 ·exact LT [some 0, some 1, some 2, some 3, some 4, some 5, some 6, some 7, some 8]
 rintro k ⟨hk, hke⟩
 by_cases hkl : k < s.os.length
 ·have hz : 0 + Int.toNat (k : Int) = k := by omega
  rw [show s.os.length - k = (s.os.length - (k + 1)) + 1 by omega, b3y] at hke
  have ho := b0g s.os s.hd (0 + Int.toNat (k : Int)) (by omega)
  rw [<- hz] at hke
  by_cases h1 : ckO (s.os.getD (0 + Int.toNat (k : Int)) os0) = 0
  ·rw [h1] at ho
   rw [if_neg (by omega)] at hke
   have hst := a7v (s.st.getD (0 + Int.toNat (k : Int)) 0)
   by_cases h2 : dly (s.st.getD (0 + Int.toNat (k : Int)) 0) = true
   ·rw [if_neg (by rw [h2]; simp)] at hke
    unfold dly at h2
    rw [h2] at hst
    rw [hz] at hke
    (repeat' (first
  | refine SP ?_
  | (apply a0a <;> intro hb <;> (try simp only [nS, nT, eq_self, reduceCtorEq] at hb) <;> (try (exfalso; omega)))
  | refine a0c ?_
  | refine OB ?_
  | refine CT [some 3] ho ?_
  | ((first | apply a0t (hst) ); exact AS)
  | (apply a0i (Subtype.mk (k + 1) ⟨by omega, hke⟩); (focus exact LT [some 0, some 1, some 2, some 3, some 4, some 5, some 6, some 7, some 8]); (all_goals (try (first | (simp only; omega)))))
  ))
   ·rw [if_pos (by simpa using h2)] at hke
    have h2 : dly (s.st.getD (0 + Int.toNat (k : Int)) 0) = false := by simpa using h2
    unfold dly at h2
    rw [h2] at hst
    rw [<- hke]
    (repeat' (first
  | refine SP ?_
  | (apply a0a <;> intro hb <;> (try simp only [nS, nT, eq_self, reduceCtorEq] at hb) <;> (try (exfalso; omega)))
  | refine a0c ?_
  | refine OB ?_
  | refine CT [some 3] ho ?_
  | ((first | apply a0t (hst) ); exact AS)
  | exact RT [some 0, some 1, some 2, some 3, some 4, some 5, some 6, some 7]
  ))
  ·rw [if_pos h1] at hke
   rw [<- hke, if_pos h1]
   generalize ckO (s.os.getD (0 + Int.toNat (k : Int)) os0) = c at *
   (repeat' (first
  | refine SP ?_
  | (apply a0a <;> intro hb <;> (try simp only [nS, nT, eq_self, reduceCtorEq] at hb) <;> (try (exfalso; omega)))
  | refine a0c ?_
  | refine OB ?_
  | refine CT [some 3] ho ?_
  | exact RT [some 0, some 1, some 2, some 3, some 4, some 5, some 6, some 7]
  ))
 ·obtain rfl : k = s.os.length := by omega
  rw [Nat.sub_self, b3y] at hke
  rw [<- hke, if_neg (by omega)]
  (repeat' (first
  | refine SP ?_
  | (apply a0a <;> intro hb <;> (try simp only [nS, nT, eq_self, reduceCtorEq] at hb) <;> (try (exfalso; omega)))
  | refine a0c ?_
  ))
  refine a0p (σ := Nat) (fun x => x <= s.l.length /\ b6s s (s.l.length - x) x = b6s s s.l.length 0) (fun x => ⟨[(1, .ptr 8 8 0 0), (79, .val (.int .i64 s.l.length)), (80, .val (.int .i64 x))], [gB s.l, ndB s.ns, osB s.os s.hd, osR s.os s.hd, iB false s.dn, iB false s.up, blB s.tr, iB false s.st, .var (scV s)]⟩) (fun x => s.l.length - x) (0) ?_ ?_ ?_
  ·exact ⟨by omega, rfl⟩
  ·exact LT [some 0, some 1, some 2, some 3, some 4, some 5, some 6, some 7, some 8]
  rintro k ⟨hk, hke⟩
  by_cases hkl : k < s.l.length
  ·have hz : 0 + Int.toNat (k : Int) = k := by omega
   rw [show s.l.length - k = (s.l.length - (k + 1)) + 1 by omega, b6s] at hke
   have hd := a7v (s.dn.getD (0 + Int.toNat (k : Int)) 0)
   have hu := a7v (s.up.getD (0 + Int.toNat (k : Int)) 0)
   rw [<- hz] at hke
   by_cases h1 : dly (s.dn.getD (0 + Int.toNat (k : Int)) 0) = true
   ·have h1' := h1
    unfold dly at h1'
    rw [h1'] at hd
    by_cases h2 : dly (s.up.getD (0 + Int.toNat (k : Int)) 0) = true
    ·rw [if_neg (by rw [h1, h2]; simp), hz] at hke
     unfold dly at h2
     rw [h2] at hu
     (repeat' (first
  | refine SP ?_
  | (apply a0a <;> intro hb <;> (try simp only [nS, nT, eq_self, reduceCtorEq] at hb) <;> (try (exfalso; omega)))
  | refine a0c ?_
  | refine OB ?_
  | ((first | apply a0t (hd) ); exact AS)
  | ((first | apply a0t (hu) ); exact AS)
  | (apply a0i (Subtype.mk (k + 1) ⟨by omega, hke⟩); (focus exact LT [some 0, some 1, some 2, some 3, some 4, some 5, some 6, some 7, some 8]); (all_goals (try (first | (simp only; omega)))))
  ))
    ·have h2 : dly (s.up.getD (0 + Int.toNat (k : Int)) 0) = false := by simpa using h2
     rw [if_pos (.inr h2)] at hke
     unfold dly at h2
     rw [h2] at hu
     rw [<- hke]
     (repeat' (first
  | refine SP ?_
  | (apply a0a <;> intro hb <;> (try simp only [nS, nT, eq_self, reduceCtorEq] at hb) <;> (try (exfalso; omega)))
  | refine a0c ?_
  | refine OB ?_
  | ((first | apply a0t (hd) ); exact AS)
  | ((first | apply a0t (hu) ); exact AS)
  | exact RT [some 0, some 1, some 2, some 3, some 4, some 5, some 6, some 7]
  ))
   ·have h1 : dly (s.dn.getD (0 + Int.toNat (k : Int)) 0) = false := by simpa using h1
    rw [if_pos (.inl h1)] at hke
    unfold dly at h1
    rw [h1] at hd
    rw [<- hke]
    (repeat' (first
  | refine SP ?_
  | (apply a0a <;> intro hb <;> (try simp only [nS, nT, eq_self, reduceCtorEq] at hb) <;> (try (exfalso; omega)))
  | refine a0c ?_
  | refine OB ?_
  | ((first | apply a0t (hd) ); exact AS)
  | exact RT [some 0, some 1, some 2, some 3, some 4, some 5, some 6, some 7]
  ))
  ·obtain rfl : k = s.l.length := by omega
   rw [Nat.sub_self, b6s] at hke
   rw [<- hke]
   (repeat' (first
  | refine SP ?_
  | (apply a0a <;> intro hb <;> (try simp only [nS, nT, eq_self, reduceCtorEq] at hb) <;> (try (exfalso; omega)))
  | exact RT [some 0, some 1, some 2, some 3, some 4, some 5, some 6, some 7]
  ))
end Go.Vx.L58
set_option maxRecDepth 100000
namespace Go.Vx.L58
open Go Go.Proofs
theorem a3w (s : Scn) (x : Nat) (hx : x < s.os.length) (hc : ckO (s.os.getD x os0) = 0) (t : Int) (ht : 0 <= t /\ t <= 1125899906842624) :
  Runs Tryz.prog 44 [scA s, .val (.int .i64 x), .val (.int .i64 t)] (scB s) (Det (.val (.int .i64 (rdF (s.os.getD x os0) t))) (scB s)) := by
 have hz : 0 + Int.toNat (x : Int) = x := by omega
 have hr := c5n s.os s.hd (0 + Int.toNat (x : Int)) (by omega) (by rw [hz]; exact hc) t ht
 rw [<- hz]
 rw [hz] at hr
 rw [hz]
 rw [<- hz] at hr
 refine Runs.mk a0k Tryz.call44 Tryz.func44 rfl Tryz.ntmps44 Tryz.results44 rfl ?_
 (repeat' (first
  | refine SP ?_
  | refine OB ?_
  | refine CT [some 3] hr ?_
  | (apply a0v [some 0, some 1, some 2, some 3, some 4, some 5, some 6, some 7]; (focus (iterate 2 (all_goals (repeat' (first | exact a1f rfl rfl rfl rfl | exact a17 rfl rfl rfl rfl | exact trivial | refine SP ?_ | refine And.intro ?_ ?_ | exact a0j rfl rfl rfl | refine a0f ?_ ))))); any_goals (apply a0e; rfl))
  ))
 all_goals (rw [hz])
structure Br where
 p : Int
 t : Int
 b : Int
 deriving DecidableEq, Inhabited
def brC (x : Br) : List AV := [.val (.int .i64 x.p), .val (.int .i64 x.t), .val (.int .i64 x.b)]
instance : FlatC brC := ⟨fun x v h => by simp [brC] at h; rcases h with rfl | rfl | rfl <;> trivial⟩
abbrev br0 : Br := ⟨0, 0, 0⟩
abbrev brB (rw : Bool) (l : List Br) : Blk := .arr rw 95 3 l.length (a2e brC br0 l)
abbrev brA (x : Br) : AV := .agg [.val (.int .i64 x.p), .val (.int .i64 x.t), .val (.int .i64 x.b)]
def upW (s : Scn) (x p : Int) : Nat -> Nat -> Br
 | 0, _ => ⟨-1, 0, 0⟩
 | k + 1, i => if (s.l.getD i ed0).a = x /\ (s.l.getD i ed0).pa = p then ⟨(s.l.getD i ed0).b, s.up.getD i 0, s.dn.getD i 0⟩
  else if (s.l.getD i ed0).b = x /\ (s.l.getD i ed0).pb = p then ⟨(s.l.getD i ed0).a, s.dn.getD i 0, s.up.getD i 0⟩ else upW s x p k (i + 1)
abbrev upF (s : Scn) (x p : Int) : Br := upW s x p s.l.length 0
set_option maxHeartbeats 4000000 in
theorem c31 (s : Scn) (hl : s.l.length <= 1000) (h1 : s.dn.length = s.l.length) (h2 : s.up.length = s.l.length) (v w : Int) :
  Runs Tryz.prog 42 [scA s, .val (.int .i64 v), .val (.int .i64 w)] (scB s) (Det (brA (upF s v w)) (scB s)) := by
 refine Runs.mk a0k Tryz.call42 Tryz.func42 rfl Tryz.ntmps42 Tryz.results42 rfl ?_
 (repeat' (first
  | refine SP ?_
  | refine a0c ?_
  ))
 refine a0p (σ := Nat) (fun x => x <= s.l.length /\ upW s v w (s.l.length - x) x = upF s v w) (fun x => ⟨[(1, .val (.int .i64 v)), (2, .val (.int .i64 w)), (3, .ptr 8 8 0 0), (6, .ptr 9 3 0 0), (12, .sl 0 4 0 s.l.length s.c0), (13, .val (.int .i64 s.l.length)), (14, .val (.int .i64 x))], [gB s.l, ndB s.ns, osB s.os s.hd, osR s.os s.hd, iB false s.dn, iB false s.up, blB s.tr, iB false s.st, .var (scV s), .var [.dead, .dead, .dead]]⟩) (fun x => s.l.length - x) (0) ?_ ?_ ?_
 ·exact ⟨by omega, rfl⟩
 ·exact LT [some 0, some 1, some 2, some 3, some 4, some 5, some 6, some 7, some 8, some 9]
 rintro k ⟨hk, hke⟩
 by_cases hkl : k < s.l.length
 ·have hz : 0 + Int.toNat (k : Int) = k := by omega
  rw [show s.l.length - k = (s.l.length - (k + 1)) + 1 by omega, upW] at hke
  rw [<- hz] at hke
  by_cases c1 : (s.l.getD (0 + Int.toNat (k : Int)) ed0).a = v /\ (s.l.getD (0 + Int.toNat (k : Int)) ed0).pa = w
  ·rw [if_pos c1] at hke
   obtain ⟨c2, c3⟩ := c1
   rw [<- hke]
   (repeat' (first
  | refine SP ?_
  | (apply a0a <;> intro hb <;> (try simp only [nS, nT, eq_self, reduceCtorEq] at hb) <;> (try (exfalso; omega)))
  | refine a0q (by decide +kernel) ?_
  | refine a0c ?_
  | refine OB ?_
  | exact RT [some 0, some 1, some 2, some 3, some 4, some 5, some 6, some 7]
  ))
  ·rw [if_neg c1] at hke
   by_cases c4 : (s.l.getD (0 + Int.toNat (k : Int)) ed0).b = v /\ (s.l.getD (0 + Int.toNat (k : Int)) ed0).pb = w
   ·rw [if_pos c4] at hke
    obtain ⟨c5, c6⟩ := c4
    rw [<- hke]
    (repeat' (first
  | refine SP ?_
  | (apply a0a <;> intro hb <;> (try simp only [nS, nT, eq_self, reduceCtorEq] at hb) <;> (try (exfalso; omega)))
  | refine a0q (by decide +kernel) ?_
  | refine a0c ?_
  | refine OB ?_
  | exact RT [some 0, some 1, some 2, some 3, some 4, some 5, some 6, some 7]
  ))
   ·rw [if_neg c4, hz] at hke
    (repeat' (first
  | refine SP ?_
  | (apply a0a <;> intro hb <;> (try simp only [nS, nT, eq_self, reduceCtorEq] at hb) <;> (try (exfalso; omega)))
  | refine a0c ?_
  | refine OB ?_
  | (apply a0i (Subtype.mk (k + 1) ⟨by omega, hke⟩); (focus exact LT [some 0, some 1, some 2, some 3, some 4, some 5, some 6, some 7, some 8, some 9]); (all_goals (try (first | (simp only; omega)))))
  ))
 ·obtain rfl : k = s.l.length := by omega
  rw [Nat.sub_self, upW] at hke
  rw [<- hke]
  (repeat' (first
  | refine SP ?_
  | (apply a0a <;> intro hb <;> (try simp only [nS, nT, eq_self, reduceCtorEq] at hb) <;> (try (exfalso; omega)))
  | exact RT [some 0, some 1, some 2, some 3, some 4, some 5, some 6, some 7]
  ))
def d4u (t : List Br) : Prop := t.length <= 24 /\ ∀ i, i < t.length -> (t.getD i br0).p < t.length
def clF (t : List Br) : Nat -> Nat -> List Int
 | 0, x => [(x : Int)]
 | k + 1, x => (x : Int) :: if 0 <= (t.getD x br0).p then clF t k (t.getD x br0).p.toNat else []
theorem b6b (t : List Br) : ∀ k x, 1 <= (clF t k x).length /\ (clF t k x).length <= k + 1
 | 0, x => by simp [clF]
 | k + 1, x => by
  rw [clF]
  split
  ·have := b6b t k (t.getD x br0).p.toNat
   simp only [List.length_cons]; omega
  ·simp
theorem c2f {t : List Br} (h : d4u t) : ∀ k x, x < t.length -> ∀ v ∈ clF t k x, 0 <= v /\ v < t.length
 | 0, x, hx, v, hv => by
  simp only [clF, List.mem_singleton] at hv
  omega
 | k + 1, x, hx, v, hv => by
  rw [clF] at hv
  have hp := h.2 x hx
  rcases List.mem_cons.1 hv with rfl | hv
  ·omega
  ·split at hv
   ·exact c2f h k _ (by omega) v hv
   ·simp at hv
def d05 : Nat -> Option Nat
 | 0 => some 1
 | _ + 1 => none
def d1m : Nat -> Option Nat
 | 1 => some 1
 | _ => none
theorem d3u (x : Nat) : d1m (x + 1) = d05 x := by cases x <;> rfl
theorem c80 (x : Nat) : (0 < x /\ d05 x = none) \/ (d05 x = some 1 /\ x = 0) := by cases x <;> simp [d05]
theorem c35 {α : Type} {cells : α -> List AV} [FlatC cells] {d : α} {ρ : Nat -> Option Nat} {rw : Bool} {t e n m : Nat} {x : α} {l L : List α} {c : Nat -> Nat -> AV}
  (hc : ∀ j, j < e -> sub ρ (nth (cells x) j) (c 0 j)) (hm : m = l.length) (hL : L = l ++ [x]) (hn : n = m + 1) :
  a3v ρ (.arr rw t e n (a2e cells d L)) (.arr true t e (m + 1) (b3i m (fun i j => a2e cells d l (0 + i) j) c)) := by
 have : (fun i j => a2e cells d l (0 + i) j) = a2e cells d l := by funext i j; rw [Nat.zero_add]
 rw [this]; exact a3l hc hm hL hn
set_option maxHeartbeats 4000000 in
theorem c6d (t : List Br) (ht : d4u t) (cap : Option Nat) (v : Nat) (hv : v < t.length) :
  Runs Tryz.prog 31 [.sl 0 3 0 t.length cap, .val (.int .i64 v)] [brB false t] (Det (.sl 1 1 0 (clF t (t.length - 1) v).length (d1m (clF t (t.length - 1) v).length)) [brB false t, iB true (clF t (t.length - 1) v)]) := by
 obtain ⟨h24, hp⟩ := ht
 have step : ∀ k x, clF t (k + 1) x = (x : Int) :: if 0 <= (t.getD x br0).p then clF t k (t.getD x br0).p.toNat else [] := fun _ _ => rfl
 have z0 : ∀ x, clF t 0 x = [(x : Int)] := fun _ => rfl
 have hR0 : clF t (t.length - 1) v = clF t (t.length - 1) v := rfl
 generalize hR : clF t (t.length - 1) v = R at hR0 ⊢
 refine Runs.mk a0k Tryz.call31 Tryz.func31 rfl Tryz.ntmps31 Tryz.results31 rfl ?_
 (repeat' (first
  | refine SP ?_
  | refine a0c ?_
  ))
 refine a0p (σ := List Int × Nat) (fun x => x.2 < t.length /\ x.1.length + 1 <= t.length /\ x.1 ++ clF t (t.length - (x.1.length + 1)) x.2 = R) (fun x => ⟨[(0, .sl 0 3 0 t.length cap), (1, .val (.int .i64 x.2)), (5, .sl 1 1 0 (x.1.length + 1) (d05 x.1.length))], [brB false t, iB true (x.1 ++ [(x.2 : Int)])]⟩) (fun x => t.length - x.1.length) (([], v)) ?_ ?_ ?_
 ·exact ⟨hv, by simp only [List.length_nil]; omega, by simpa using hR⟩
 ·(apply a04 [some 0, some 1]; (focus (iterate 2 (all_goals (repeat' (first | exact trivial | refine SP ?_ | refine And.intro ?_ ?_ | exact a0r rfl rfl rfl | exact a0b _ _ | exact a0j rfl rfl rfl | refine a0o ?_ ?_ | exact a3c | (apply a3g rfl; (focus (refine a0o ?_ ?_))) ))))); any_goals (apply a0e; rfl))
 rintro ⟨pre, y⟩ ⟨hy, hle, he⟩
 simp only at hy hle he
 have hz : 0 + Int.toNat (y : Int) = y := by omega
 have hpy := hp y hy
 have hlen : (pre ++ [(y : Int)]).length = pre.length + 1 := by simp
 rw [<- hz] at hpy
 have hR1 : ¬ (0 <= (t.getD (0 + Int.toNat (y : Int)) br0).p /\ pre.length + 1 < t.length) -> R = pre ++ [(y : Int)] := fun h => by
  rw [<- he]
  congr 1
  rcases Nat.lt_or_ge (pre.length + 1) t.length with h1 | h1
  ·rw [show t.length - (pre.length + 1) = t.length - (pre.length + 1) - 1 + 1 by omega, step, if_neg (by rw [hz] at h; exact fun h' => h ⟨h', h1⟩)]
  ·rw [show t.length - (pre.length + 1) = 0 by omega, z0]
 have hR2 : 0 <= (t.getD (0 + Int.toNat (y : Int)) br0).p -> pre.length + 1 < t.length -> (t.getD (0 + Int.toNat (y : Int)) br0).p.toNat < t.length /\ (pre ++ [(y : Int)]).length + 1 <= t.length /\ (pre ++ [(y : Int)]) ++ clF t (t.length - ((pre ++ [(y : Int)]).length + 1)) (t.getD (0 + Int.toNat (y : Int)) br0).p.toNat = R := fun h h1 => by
  refine ⟨by omega, by omega, ?_⟩
  rw [<- he, show t.length - (pre.length + 1) = t.length - (pre.length + 2) + 1 by omega, step, hz, if_pos (by rw [hz] at h; exact h), hlen, List.append_assoc]
  rfl
 have hcap := c80 pre.length
 by_cases hgo : 0 <= (t.getD (0 + Int.toNat (y : Int)) br0).p /\ pre.length + 1 < t.length
 ·obtain ⟨g1, g2⟩ := hgo
  have hI := hR2 g1 g2
  have hnn : (((t.getD (0 + Int.toNat (y : Int)) br0).p.toNat : Nat) : Int) = (t.getD (0 + Int.toNat (y : Int)) br0).p := by omega
  have hc1 : d05 (pre ++ [(y : Int)]).length = none := by rw [hlen]; rfl
  generalize hcc : d05 pre.length = c at *
  rcases hcap with ⟨hc0, rfl⟩ | ⟨rfl, hc0⟩
  ·(repeat' (first
  | refine SP ?_
  | (apply a0a <;> intro hb <;> (try simp only [nS, nT, eq_self, reduceCtorEq] at hb) <;> (try (exfalso; omega)))
  | refine a0c ?_
  | refine OB ?_
  | (apply a0i (Subtype.mk (pre ++ [(y : Int)], (t.getD (0 + Int.toNat (y : Int)) br0).p.toNat) hI); (focus ((simp only [hnn, hc1]); apply a04 [some 0, some _]; (focus (iterate 2 (all_goals (repeat' (first | exact trivial | refine SP ?_ | refine And.intro ?_ ?_ | exact a0r rfl rfl rfl | exact a0b _ _ | exact a0j rfl rfl rfl | ((first | refine a0r rfl rfl ?_ | show (_ : Nat) = _); first | with_reducible rfl | omega | ((try simp only [wS]); omega) | rfl) | apply a3l | refine a0o ?_ ?_ | exact a3c | with_reducible rfl ))))); any_goals (apply a0e; rfl))); (all_goals (try (first | (simp only; omega)))))
  ))
   all_goals (simp)
  ·(repeat' (first
  | refine SP ?_
  | (apply a0a <;> intro hb <;> (try simp only [nS, nT, eq_self, reduceCtorEq] at hb) <;> (try (exfalso; omega)))
  | refine a0c ?_
  | refine OB ?_
  | (apply a0i (Subtype.mk (pre ++ [(y : Int)], (t.getD (0 + Int.toNat (y : Int)) br0).p.toNat) hI); (focus ((simp only [hnn, hc1]); apply a04 [some 0, some _]; (focus (iterate 2 (all_goals (repeat' (first | exact trivial | refine SP ?_ | refine And.intro ?_ ?_ | exact a0r rfl rfl rfl | exact a0b _ _ | exact a0j rfl rfl rfl | ((refine a0r rfl rfl ?_); first | with_reducible rfl | omega | ((try simp only [wS]); omega) | rfl) ))))); any_goals (apply a0e; rfl))); (all_goals (try (first | (simp only; omega)))))
  ))
   all_goals exact c35 (a0o (a0b _ _) a3c) (by simp) rfl (by simp)
 ·have hRe := hR1 hgo
  rw [hRe, hlen, d3u]
  (repeat' (first
  | refine SP ?_
  | (apply a0a <;> intro hb <;> (try simp only [nS, nT, eq_self, reduceCtorEq] at hb) <;> (try (exfalso; omega)))
  | refine a0c ?_
  | refine OB ?_
  | exact RT [some 0, some 1]
  ))
end Go.Vx.L58

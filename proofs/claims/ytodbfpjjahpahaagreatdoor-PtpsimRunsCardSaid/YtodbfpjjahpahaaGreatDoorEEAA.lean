/- Lemmas of a small executor for the model, and contracts of functions, used for the law that this claim proves. No condition. -/
import Derived.Test.YtodbfpjjahpahaaGreatDoorEW3
import Derived.Test.YtodbfpjjahpahaaGreatDoorEE0
import Derived.Test.YtodbfpjjahpahaaGreatDoorEGBA
set_option linter.unusedSimpArgs false
set_option linter.unusedVariables false
set_option maxRecDepth 100000
namespace Go.Vx.L58
open Go Go.Proofs
theorem b8q {own : DS} {ps : List (Option DS)} {x : Nat} (h : a4v own ps x = 6) : a5r own ps = a1p ps x := by
 unfold a4v at h
 by_cases hs : a2u own ps = true
 ·rw [if_pos hs] at h; cases h
 ·rw [if_neg hs] at h
  by_cases hb : (x : Int) = a2w ps
  ·unfold a5r; rw [if_neg hs, <- hb, Int.toNat_natCast]
  ·rw [if_neg hb] at h
   split at h <;> cases h
theorem b5g {own : DS} {ps : List (Option DS)} (h : ∀ y, y < ps.length -> a4v own ps y ≠ 6) : a5r own ps = own := by
 unfold a5r
 by_cases hs : a2u own ps = true
 ·rw [if_pos hs]
 ·exfalso
  have hs' := hs
  unfold a2u at hs'
  rw [Bool.or_eq_true, decide_eq_true_eq] at hs'
  obtain ⟨b0, b1⟩ := b13 ps ps.length
  rw [show bst ps ps.length = a2w ps from rfl] at b0 b1
  have hb : ¬ a2w ps < 0 := fun e => hs' (.inl e)
  refine h (a2w ps).toNat (by omega) ?_
  unfold a4v
  rw [if_neg hs, if_pos (by omega)]
set_option maxHeartbeats 2000000 in
theorem c1g (own : DS) (ps : List (Option DS)) (cap : Option Nat) (hn : ps.length <= 8) (hw : wfP ps) (ho : wfD own) (hcl : 127 < own.cl) :
  Runs Tryz.prog 120 [aD own, .sl 0 12 0 ps.length cap] [pB ps] (Det (aD (a5r own ps)) [pB ps]) := by
 have hde := b0i own ps cap hn hw ho hcl
 have hcl2 : (a7s own ps).length = ps.length := a2p own ps ps.length
 refine Runs.mk a0k Tryz.call120 Tryz.func120 rfl Tryz.ntmps120 Tryz.results120 rfl ?_
 (repeat' (first
  | refine SP ?_
  | (apply a0a <;> intro hb <;> (try simp only [nS, nT, eq_self, reduceCtorEq] at hb) <;> (try (exfalso; fail; done)))
  | refine a0c ?_
  | ((first | apply a1z (hde) ); exact AS; (try (any_goals fail)))
  ))
 refine a0p (σ := Nat) (fun x => x <= ps.length /\ ∀ y, y < x -> a4v own ps y ≠ 6) (fun x => ⟨[(1, .sl 0 12 0 ps.length cap), (2, .ptr 1 11 0 0), (4, .ptr 2 11 0 0), (18, .sl 3 1 0 ps.length none), (19, .val (.int .i64 ps.length)), (20, .val (.int .i64 x))], [pB ps, .var (dC own), .var (dC default), iB true (a7s own ps)]⟩) (fun x => ps.length - x) (0) ?_ ?_ ?_
 ·exact ⟨by omega, fun y h => by omega⟩
 ·exact LT [some 0, some 1, some 2, some 3]
 rintro x ⟨hx, hxe⟩
 by_cases hxl : x < ps.length
 ·have hz : 0 + Int.toNat (x : Int) = x := by omega
  have hg : (a7s own ps).getD (0 + Int.toNat (x : Int)) 0 = a4v own ps x := by rw [hz]; exact a5q own ps _ _ hxl
  by_cases h6 : a4v own ps x = 6
  ·have hf := b8q h6
   rw [<- hz] at hf
   rw [h6] at hg
   rw [hf]
   generalize a7s own ps = C at *
   (repeat' (first
  | refine SP ?_
  | (apply a0a <;> intro hb <;> (try simp only [nS, nT, eq_self, reduceCtorEq] at hb) <;> (try (exfalso; omega)))
  | refine a0c ?_
  | refine OB ?_
  | exact RT [some 0]
  ))
  ·have hxe' : ∀ y, y < x + 1 -> a4v own ps y ≠ 6 := fun y hy => by
    by_cases h : y = x
    ·rw [h]; exact h6
    ·exact hxe y (by omega)
   rw [<- hg] at h6
   generalize a7s own ps = C at *
   (repeat' (first
  | refine SP ?_
  | (apply a0a <;> intro hb <;> (try simp only [nS, nT, eq_self, reduceCtorEq] at hb) <;> (try (exfalso; omega)))
  | refine a0c ?_
  | refine OB ?_
  | (apply a0i (Subtype.mk (x + 1) ⟨by omega, hxe'⟩); (focus exact LT [some 0, some 1, some 2, some 3]); (all_goals (try (first | (simp only; omega)))))
  ))
 ·have hx' : x = ps.length := by omega
  subst hx'
  rw [b5g hxe]
  (repeat' (first
  | refine SP ?_
  | (apply a0a <;> intro hb <;> (try simp only [nS, nT, eq_self, reduceCtorEq] at hb) <;> (try (exfalso; omega)))
  | exact RT [some 0]
  ))
structure Nd where
 id : Int
 p1 : Int
 cl : Int
 ac : Int
 va : Int
 p2 : Int
 deriving DecidableEq, Inhabited
def ndC (c : Nd) : List AV := [.val (.int .u64 c.id), .val (.int .i64 c.p1), .val (.int .i64 c.cl), .val (.int .i64 c.ac), .val (.int .i64 c.va), .val (.int .i64 c.p2)]
instance : FlatC ndC := ⟨fun x v h => by simp [ndC] at h; rcases h with rfl | rfl | rfl | rfl | rfl | rfl <;> trivial⟩
abbrev nd0 : Nd := ⟨0, 0, 0, 0, 0, 0⟩
abbrev ndF (l : List Nd) : Nat -> Nat -> AV := a2e ndC nd0 l
abbrev ndB (l : List Nd) : Blk := .arr false 93 6 l.length (ndF l)
def owD (c : Nd) : DS := ⟨c.p1, c.cl, c.ac, c.va, c.p2, c.id, 0, c.id, 0, c.id, 0⟩
theorem c7f (c : Nd) : Runs Tryz.prog 79 [.agg [.val (.int .i64 c.p1), .val (.int .i64 c.cl), .val (.int .i64 c.ac), .val (.int .i64 c.va), .val (.int .i64 c.p2)], .val (.int .u64 c.id)] [] (Det (aD (owD c)) []) := by
 refine Runs.mk a0k Tryz.call79 Tryz.func79 rfl Tryz.ntmps79 Tryz.results79 rfl ?_
 (repeat' (first
  | refine SP ?_
  | exact RT []
  ))
theorem c9o (d : DS) (s sp r rp : Int) (h0 : 0 <= d.st) (h1 : d.st < 32) : Runs Tryz.prog 151 [aD d, .val (.int .u64 s), .val (.int .i64 sp), .val (.int .u64 r), .val (.int .i64 rp)] [] (Det (.tup [aD { d with st := d.st + 1, se := s, sp := sp, re := r, rp := rp }, .val (.int .i64 0)]) []) := by
 refine Runs.mk a0k Tryz.call151 Tryz.func151 rfl Tryz.ntmps151 Tryz.results151 rfl ?_
 (repeat' (first
  | refine SP ?_
  | (apply a0a <;> intro hb <;> (try simp only [nS, nT, eq_self, reduceCtorEq] at hb) <;> (try (exfalso; omega)))
  | refine a0c ?_
  | exact RT []
  ))
 all_goals exact a8c (by omega) (by omega)
def wrd (n : Int) : Bool := decide (0 <= n /\ n <= 65535)
theorem b77 (l : List Int) (cap : Option Nat) (hl : l.length <= 1000) : Runs Tryz.prog 66 [.sl 0 1 0 l.length cap] [iB false l] (Det (.sb (l.all wrd)) [iB false l]) := by
 refine Runs.mk a0k Tryz.call66 Tryz.func66 rfl Tryz.ntmps66 Tryz.results66 rfl ?_
 (repeat' (first
  | refine SP ?_
  | refine a0c ?_
  ))
 refine a0p (σ := Nat) (fun x => x <= l.length /\ (l.take x).all wrd = true) (fun x => ⟨[(5, .sl 0 1 0 l.length cap), (6, .val (.int .i64 l.length)), (7, .val (.int .i64 x))], [iB false l]⟩) (fun x => l.length - x) (0) ?_ ?_ ?_
 ·simp
 ·exact LT [some 0]
 rintro x ⟨hx, hxe⟩
 by_cases hxl : x < l.length
 ·have hz : 0 + Int.toNat (x : Int) = x := by omega
  have e1 : l.take (x + 1) = l.take x ++ [l.getD x 0] := by
   rw [List.getD_eq_getElem?_getD, List.getElem?_eq_getElem hxl, Option.getD_some]; exact (List.take_append_getElem hxl).symm
  cases hc : wrd (l.getD x 0)
  ·have hall : l.all wrd = false := by
    rw [List.all_eq_false]; exact ⟨_, a2s l x 0 hxl, by rw [hc]; simp⟩
   rw [hall]
   unfold wrd at hc
   rw [decide_eq_false_iff_not, <- hz] at hc
   (repeat' (first
  | refine SP ?_
  | (apply a0a <;> intro hb <;> (try simp only [nS, nT, eq_self, reduceCtorEq] at hb) <;> (try (exfalso; omega)))
  | refine a0c ?_
  | refine OB ?_
  | exact RT [some 0]
  ))
  ·have hxe' : (l.take (x + 1)).all wrd = true := by rw [e1, List.all_append, hxe, List.all_cons, hc]; rfl
   unfold wrd at hc
   rw [decide_eq_true_eq, <- hz] at hc
   (repeat' (first
  | refine SP ?_
  | (apply a0a <;> intro hb <;> (try simp only [nS, nT, eq_self, reduceCtorEq] at hb) <;> (try (exfalso; omega)))
  | refine a0c ?_
  | refine OB ?_
  | (apply a0i (Subtype.mk (x + 1) ⟨by omega, hxe'⟩); (focus exact LT [some 0]); (all_goals (try (first | (simp only; omega)))))
  ))
 ·rw [List.take_of_length_le (by omega)] at hxe
  rw [hxe]
  (repeat' (first
  | refine SP ?_
  | (apply a0a <;> intro hb <;> (try simp only [nS, nT, eq_self, reduceCtorEq] at hb) <;> (try (exfalso; omega)))
  | exact RT [some 0]
  ))
end Go.Vx.L58
set_option maxRecDepth 100000
namespace Go.Vx.L58
open Go Go.Proofs
abbrev plA (v : Int × Int) : AV := .agg [.val (.int .i64 v.1), .val (.int .i64 v.2)]
structure Mm where
 node : Int
 port : Int
 age : Int
 set : DS
 deriving DecidableEq, Inhabited
abbrev meA (m : Mm) : AV := .agg (.val (.int .i64 m.node) :: .val (.int .i64 m.port) :: .val (.int .i64 m.age) :: dC m.set)
theorem a0y {g : List Int -> Int × Int} : ∀ x, FlatA ((fun k => plA (g k)) x) := fun x => by
 simp [FlatA, b6e]
theorem a1b {g : List Int -> Mm} : ∀ x, FlatA ((fun k => meA (g k)) x) := fun x => by
 simp [FlatA, b6e]
structure MS where
 ks : List (List Int)
 g : List Int -> Mm
abbrev mB (s : MS) : Blk := .map (some 2) s.ks (fun k => meA (s.g k))
abbrev peB (pk : List (List Int)) (gp : List Int -> Int × Int) : Blk := .map (some 2) pk (fun k => plA (gp k))
abbrev aF (ns : List Nd) (cap : Option Nat) (rs : List (List Int)) : AV := .agg [.sl 0 6 0 ns.length cap, .sl 1 1 0 rs.length none, .map 2]
abbrev fB (ns : List Nd) (rs : List (List Int)) (pk : List (List Int)) (gp : List Int -> Int × Int) : List Blk := [ndB ns, nR rs.length rs, peB pk gp]
theorem c8f (ns : List Nd) (cap : Option Nat) (rs pk : List (List Int)) (gp : List Int -> Int × Int) (x : Nat) (hx : x < ns.length) :
  Runs Tryz.prog 38 [aF ns cap rs, .val (.int .i64 x)] (fB ns rs pk gp) (Det (aD (owD (ns.getD x nd0))) (fB ns rs pk gp)) := by
 have hz : 0 + Int.toNat (x : Int) = x := by omega
 have h := c7f (ns.getD x nd0)
 generalize hO : owD (ns.getD x nd0) = O at *
 rw [<- hz] at h
 refine Runs.mk a0k Tryz.call38 Tryz.func38 rfl Tryz.ntmps38 Tryz.results38 rfl ?_
 (repeat' (first
  | refine SP ?_
  | refine a0q (by decide +kernel) ?_
  | refine a0c ?_
  | refine OB ?_
  | ((first | apply a1l (h)); exact AS)
  | (apply a0v [some 0, some 1, some 2]; (focus (iterate 2 (all_goals (repeat' (first | exact a00 rfl rfl rfl | exact a0l a0y rfl (fun _ _ => rfl) | exact a0g | exact trivial | refine SP ?_ | refine And.intro ?_ ?_ | refine a0d ?_ ?_ | refine a1i ?_ | exact a0b _ _ | exact a0j rfl rfl rfl ))))); any_goals (apply a0e; rfl))
  ))
def hrX (s : MS) (n : Int) (x : Nat) : List (Option DS) := (List.range 8).map fun i => if i < x /\ s.ks.contains [n, ((i + 1 : Nat) : Int)] = true then some (s.g [n, ((i + 1 : Nat) : Int)]).set else none
theorem a8f (s : MS) (n : Int) (x : Nat) : (hrX s n x).length = 8 := by simp [hrX]
theorem c9w (s : MS) (n : Int) (x : Nat) (hx : x < 8) (h : s.ks.contains [n, ((x + 1 : Nat) : Int)] = true) : hrX s n (x + 1) = (hrX s n x).set x (some (s.g [n, ((x + 1 : Nat) : Int)]).set) := by
 apply List.ext_getElem (by simp [hrX])
 intro i h1 h2
 rw [List.getElem_set]
 by_cases hi : x = i
 ·subst hi
  rw [if_pos rfl]
  simp only [hrX, List.getElem_map, List.getElem_range]
  rw [if_pos ⟨by omega, h⟩]
 ·rw [if_neg hi]
  simp only [hrX, List.getElem_map, List.getElem_range]
  have : (i < x + 1 /\ s.ks.contains [n, ((i + 1 : Nat) : Int)] = true) ↔ (i < x /\ s.ks.contains [n, ((i + 1 : Nat) : Int)] = true) := by
   constructor <;> rintro ⟨h1, h2⟩ <;> exact ⟨by omega, h2⟩
  simp only [this]
theorem d3r (s : MS) (n : Int) (x : Nat) (h : s.ks.contains [n, ((x + 1 : Nat) : Int)] = false) : hrX s n (x + 1) = hrX s n x := by
 apply List.ext_getElem (by simp [hrX])
 intro i h1 h2
 simp only [hrX, List.getElem_map, List.getElem_range]
 have : (i < x + 1 /\ s.ks.contains [n, ((i + 1 : Nat) : Int)] = true) ↔ (i < x /\ s.ks.contains [n, ((i + 1 : Nat) : Int)] = true) := by
  constructor
  ·rintro ⟨h3, h4⟩
   by_cases e : i = x
   ·rw [e, h] at h4; cases h4
   ·exact ⟨by omega, h4⟩
  ·rintro ⟨h3, h4⟩; exact ⟨by omega, h4⟩
 simp only [this]
abbrev pBw (l : List (Option DS)) : Blk := .arr true 206 12 l.length (pbF l)
set_option maxHeartbeats 1000000 in
theorem b81 (s : MS) (n : Nat) : Runs Tryz.prog 84 [.map 0, .val (.int .i64 n)] [mB s] (Det (.sl 1 12 0 8 none) [mB s, pBw (hrX s n 8)]) := by
 refine Runs.mk a0k Tryz.call84 Tryz.func84 rfl Tryz.ntmps84 Tryz.results84 rfl ?_
 (repeat' (first
  | refine SP ?_
  | refine a0c ?_
  | refine OB ?_
  ))
 refine a0p (σ := Nat) (fun x => x <= 8) (fun x => ⟨[(0, .map 0), (1, .val (.int .i64 n)), (5, .sl 1 12 0 8 none), (11, .val (.int .i64 8)), (12, .val (.int .i64 x))], [mB s, pBw (hrX s n x)]⟩) (fun x => 8 - x) (0) ?_ ?_ ?_
 ·omega
 ·(apply a04 [some 0, some 1]; (focus (iterate 2 (all_goals (repeat' (first | exact a0l a1b rfl (fun _ _ => rfl) | exact a02 rfl | exact trivial | refine SP ?_ | refine And.intro ?_ ?_ | exact a0r rfl rfl rfl | exact a0b _ _ | exact a0w rfl | refine a0o ?_ ?_ | exact a3c | (apply a3g rfl; (focus (refine a0o ?_ ?_))) ))))); any_goals (apply a0e; rfl))
  all_goals first
   | exact a9r (x := none) (a0d (a1m rfl) (a0d (a0f rfl) (a0d (a0f rfl) (a0d (a0f rfl) (a0d (a0f rfl) (a0d (a0f rfl) (a0d (a0f rfl) (a0d (a0f rfl) (a0d (a0f rfl) (a0d (a0f rfl) (a0d (a0f rfl) (a0d (a0f rfl) a0g)))))))))))) (hrX_zero s n) rfl
   | fail
 rintro x hx
 have hle := a8f s n x
 by_cases hx8 : x < 8
 ·have hz : 0 + Int.toNat (x : Int) = x := by omega
  have hwr : IntKind.i64.wrap ((x : Int) + 1) = ((x + 1 : Nat) : Int) := by rw [a8c (by omega) (by omega)]; rfl
  cases hc : s.ks.contains [(n : Int), ((x + 1 : Nat) : Int)]
  ·have hh := hc
   rw [<- hwr] at hh
   have hn := d3r s n x hc
   (repeat' (first
  | refine SP ?_
  | (with_reducible refine a07 ?_)
  | (apply a0a <;> intro hb <;> (try simp only [nS, nT, eq_self, reduceCtorEq] at hb) <;> (try (exfalso; (first | omega | (rw [hh] at hb; cases hb)); done)))
  | refine a0c ?_
  | (apply a0i (Subtype.mk (x + 1) (by first | omega | (simp only; omega))); (focus (rw [hn]; apply a04 [some 0, some 1]; (focus (iterate 2 (all_goals (repeat' (first | exact a0l a1b rfl (fun _ _ => rfl) | exact a02 rfl | exact trivial | refine SP ?_ | refine And.intro ?_ ?_ | exact a0r rfl rfl rfl | exact a0b _ _ | exact a0j rfl rfl rfl | ((refine a0f ?_); first | with_reducible rfl | omega | ((try simp only [wS]); omega) | rfl) ))))); any_goals (apply a0e; rfl))); (all_goals (try (first | (simp only; omega)))))
  ))
  ·have hh := hc
   rw [<- hwr] at hh
   have hn := c9w s n x hx8 hc
   rw [<- hwr] at hn
   generalize hrX s n x = L at *
   have hn' : hrX s n (x + 1) = L.set (0 + Int.toNat (x : Int)) (some (s.g [(n : Int), IntKind.i64.wrap ((x : Int) + 1)]).set) := by rw [hz]; exact hn
   (repeat' (first
  | refine SP ?_
  | (with_reducible refine a01 ?_)
  | (apply a0a <;> intro hb <;> (try simp only [nS, nT, eq_self, reduceCtorEq] at hb) <;> (try (exfalso; (first | omega | (rw [hh] at hb; cases hb)); done)))
  | refine a0c ?_
  | refine OB ?_
  | (apply a0i (Subtype.mk (x + 1) (by first | omega | (simp only; omega))); (focus (rw [hn']; apply a04 [some 0, some 1]; (focus (iterate 2 (all_goals (repeat' (first | exact a0l a1b rfl (fun _ _ => rfl) | exact a02 rfl | exact trivial | refine SP ?_ | refine And.intro ?_ ?_ | exact a0r rfl rfl rfl | exact a0b _ _ | ((refine a0f ?_); first | with_reducible rfl | omega | ((try simp only [wS]); omega) | rfl) ))))); any_goals (apply a0e; rfl))); (all_goals (try (first | (simp only; omega)))))
  ))
   all_goals exact b80 rfl (a0d (a0w rfl) (a0d (a0f rfl) (a0d (a0f rfl) (a0d (a0f rfl) (a0d (a0f rfl) (a0d (a0f rfl) (a0d (a0f rfl) (a0d (a0f rfl) (a0d (a0f rfl) (a0d (a0f rfl) (a0d (a0f rfl) (a0d (a0f rfl) a0g)))))))))))) (by rw [hle]; omega) rfl rfl rfl
 ·obtain rfl : x = 8 := by omega
  (repeat' (first
  | refine SP ?_
  | (apply a0a <;> intro hb <;> (try simp only [nS, nT, eq_self, reduceCtorEq] at hb) <;> (try (exfalso; omega)))
  | (apply a0v [some 0, some 1]; (focus (iterate 2 (all_goals (repeat' (first | exact a0l a1b rfl (fun _ _ => rfl) | exact trivial | refine SP ?_ | refine And.intro ?_ ?_ | exact a0r rfl rfl rfl | exact a0j rfl rfl rfl ))))); any_goals (apply a0e; rfl))
  ))
end Go.Vx.L58
set_option maxRecDepth 100000
namespace Go.Vx.L58
open Go Go.Proofs
def vlM (ns : List Nd) (pk : List (List Int)) (m : Mm) : Bool := decide (pk.contains [m.node, m.port] = true /\ (0 <= m.age /\ m.age < 3) /\ (0 <= m.set.st /\ m.set.st < 32) /\ [m.set.p1, m.set.cl, m.set.ac, m.set.va, m.set.p2, m.set.sp, m.set.rp].all wrd = true /\ m.set.re = (ns.getD m.node.toNat nd0).id /\ m.set.rp = m.port)
set_option maxHeartbeats 4000000 in
theorem b75 (ns : List Nd) (cap : Option Nat) (rs pk : List (List Int)) (gp : List Int -> Int × Int) (hpk : ∀ a p : Int, [a, p] ∈ pk -> 0 <= a /\ a < ns.length) (m : Mm) :
  Runs Tryz.prog 119 [aF ns cap rs, meA m] (fB ns rs pk gp) (Det (.sb (vlM ns pk m)) (fB ns rs pk gp)) := by
 have hwo := b77 [m.set.p1, m.set.cl, m.set.ac, m.set.va, m.set.p2, m.set.sp, m.set.rp] (some 7) (by simp)
 have hnd : pk.contains [m.node, m.port] = true -> 0 <= m.node /\ m.node < ns.length := fun h => hpk _ _ (by simpa using h)
 have hv : ∀ b, (vlM ns pk m = b) = (vlM ns pk m = b) := fun _ => rfl
 cases hc : pk.contains [m.node, m.port]
 ·have hh := hc
  have e : vlM ns pk m = false := decide_eq_false (fun h => by rw [hc] at h; cases h.1)
  rw [e]
  refine Runs.mk a0k Tryz.call119 Tryz.func119 rfl Tryz.ntmps119 Tryz.results119 rfl ?_
  (repeat' (first
  | refine SP ?_
  | (apply a0a <;> intro hb <;> (try simp only [nS, nT, eq_self, reduceCtorEq] at hb) <;> (try (exfalso; (first | (rw [hh] at hb; cases hb)); done)))
  | refine a0c ?_
  | (apply a0v [some 0, some 1, some 2]; (focus (iterate 2 (all_goals (repeat' (first | exact a00 rfl rfl rfl | exact a0l a0y rfl (fun _ _ => rfl) | exact trivial | refine SP ?_ | refine And.intro ?_ ?_ | exact a0w rfl | exact a0j rfl rfl rfl ))))); any_goals (apply a0e; rfl))
  ))
 ·have hh := hc
  obtain ⟨n0, n1⟩ := hnd hc
  cases hw : [m.set.p1, m.set.cl, m.set.ac, m.set.va, m.set.p2, m.set.sp, m.set.rp].all wrd
  ·have e : vlM ns pk m = false := decide_eq_false (fun h => by rw [hw] at h; cases h.2.2.2.1)
   rw [hw] at hwo
   rw [e]
   refine Runs.mk a0k Tryz.call119 Tryz.func119 rfl Tryz.ntmps119 Tryz.results119 rfl ?_
   (repeat' (first
  | refine SP ?_
  | (with_reducible refine a07 ?_)
  | (apply a0a <;> intro hb <;> (try simp only [nS, nT, eq_self, reduceCtorEq] at hb) <;> (try (exfalso; (first | (rw [hh] at hb; cases hb)); done)))
  | refine a0q (by decide +kernel) ?_
  | refine a0c ?_
  | ((first | apply c8e (hwo)); (focus (iterate 2 (all_goals (repeat' (first | exact a0g | exact trivial | refine SP ?_ | refine And.intro ?_ ?_ | refine a0d ?_ ?_ | exact a0r rfl rfl rfl | exact a0b _ _ | refine a0o ?_ ?_ | exact a3c | (apply a3g rfl; (focus (refine a0o ?_ ?_))) ))))); (try (any_goals (first | (apply b4m; rfl)))))
  | (apply a0v [some 0, some 1, some 2]; (focus (iterate 2 (all_goals (repeat' (first | exact a00 rfl rfl rfl | exact a0l a0y rfl (fun _ _ => rfl) | exact trivial | refine SP ?_ | refine And.intro ?_ ?_ | exact a0w rfl | exact a0j rfl rfl rfl ))))); any_goals (apply a0e; rfl))
  ))
  ·have e : vlM ns pk m = decide ((0 <= m.age /\ m.age < 3) /\ (0 <= m.set.st /\ m.set.st < 32) /\ m.set.re = (ns.getD (0 + m.node.toNat) nd0).id /\ m.set.rp = m.port) := by
    unfold vlM; rw [hc, hw, Nat.zero_add]; simp
   rw [hw] at hwo
   rw [e]
   clear e hv hnd hpk hw hc
   refine Runs.mk a0k Tryz.call119 Tryz.func119 rfl Tryz.ntmps119 Tryz.results119 rfl ?_
   (repeat' (first
  | refine SP ?_
  | (with_reducible refine a01 ?_)
  | (apply a0a <;> intro hb <;> (try simp only [nS, nT, eq_self, reduceCtorEq] at hb) <;> (try (exfalso; (first | (rw [hh] at hb; cases hb)); done)))
  | refine a0q (by decide +kernel) ?_
  | refine a0c ?_
  | refine OB ?_
  | ((first | apply c8e (hwo)); (focus (iterate 2 (all_goals (repeat' (first | exact a0g | exact trivial | refine SP ?_ | refine And.intro ?_ ?_ | refine a0d ?_ ?_ | exact a0r rfl rfl rfl | exact a0b _ _ | refine a0o ?_ ?_ | exact a3c | (apply a3g rfl; (focus (refine a0o ?_ ?_))) ))))); (try (any_goals (first | (apply b4m; rfl)))))
  | (apply a0v [some 0, some 1, some 2]; (focus (iterate 2 (all_goals (repeat' (first | exact a00 rfl rfl rfl | exact a0l a0y rfl (fun _ _ => rfl) | exact trivial | refine SP ?_ | refine And.intro ?_ ?_ | exact a0j rfl rfl rfl | refine a0w ?_ ))))); any_goals (apply a0e; rfl))
  ))
   all_goals first
    | exact (decide_eq_true (by omega)).symm
    | exact (decide_eq_false (by omega)).symm
    | (simp_all; done)
    | fail
def b36 (i j : Int) (p q : Int) (o f : DS) : DS × Bool :=
 if f = o then ({ o with se := i, sp := p, re := j, rp := q }, true) else if f.st + 1 < 32 then ({ f with st := f.st + 1, se := i, sp := p, re := j, rp := q }, true) else (default, false)
set_option maxHeartbeats 4000000 in
theorem c89 (ns : List Nd) (cap : Option Nat) (rs pk : List (List Int)) (gp : List Int -> Int × Int) (x y p q : Int) (hx : 0 <= x /\ x < ns.length) (hy : 0 <= y /\ y < ns.length) (o f : DS) (hf : 0 <= f.st /\ f.st < 32) :
  Runs Tryz.prog 122 [aF ns cap rs, plA (x, p), plA (y, q), aD o, aD f] (fB ns rs pk gp) (Det (.tup [aD (b36 (ns.getD x.toNat nd0).id (ns.getD y.toNat nd0).id p q o f).1, .sb (b36 (ns.getD x.toNat nd0).id (ns.getD y.toNat nd0).id p q o f).2]) (fB ns rs pk gp)) := by
 have hst := c9o f (ns.getD x.toNat nd0).id p (ns.getD y.toNat nd0).id q hf.1 hf.2
 by_cases h1 : f = o
 ·subst h1
  have e : b36 (ns.getD x.toNat nd0).id (ns.getD y.toNat nd0).id p q f f = ({ f with se := (ns.getD x.toNat nd0).id, sp := p, re := (ns.getD y.toNat nd0).id, rp := q }, true) := by unfold b36; rw [if_pos rfl]
  rw [e]
  rw [<- Nat.zero_add x.toNat, <- Nat.zero_add y.toNat]
  refine Runs.mk a0k Tryz.call122 Tryz.func122 rfl Tryz.ntmps122 Tryz.results122 rfl ?_
  (repeat' (first
  | refine SP ?_
  | (apply a0a <;> intro hb <;> (try simp only [nS, nT, eq_self, reduceCtorEq] at hb) <;> (try (exfalso; fail; done)))
  | refine a0q (by decide +kernel) ?_
  | refine a0c ?_
  | refine OB ?_
  | (apply a0v [some 0, some 1, some 2]; (focus (iterate 2 (all_goals (repeat' (first | exact a00 rfl rfl rfl | exact a0l a0y rfl (fun _ _ => rfl) | exact a0g | exact trivial | refine SP ?_ | refine And.intro ?_ ?_ | refine a0d ?_ ?_ | refine a1i ?_ | refine a1c ?_ | exact a0b _ _ | exact a0w rfl | exact a0j rfl rfl rfl ))))); any_goals (apply a0e; rfl))
  ))
 ·have hne : ¬ (f.p1 = o.p1 /\ f.cl = o.cl /\ f.ac = o.ac /\ f.va = o.va /\ f.p2 = o.p2 /\ f.gm = o.gm /\ f.st = o.st /\ f.se = o.se /\ f.sp = o.sp /\ f.re = o.re /\ f.rp = o.rp) := fun ⟨a1, a2, a3, a4, a5, a6, a7, a8, a9, a10, a11⟩ => h1 (by cases f; cases o; simp_all)
  by_cases h2 : f.st + 1 < 32
  ·have e : b36 (ns.getD x.toNat nd0).id (ns.getD y.toNat nd0).id p q o f = ({ f with st := f.st + 1, se := (ns.getD x.toNat nd0).id, sp := p, re := (ns.getD y.toNat nd0).id, rp := q }, true) := by unfold b36; rw [if_neg h1, if_pos h2]
   rw [e]
   generalize hD : ({ f with st := f.st + 1, se := (ns.getD x.toNat nd0).id, sp := p, re := (ns.getD y.toNat nd0).id, rp := q } : DS) = D at *
   have hDs : D.st = f.st + 1 := by rw [<- hD]
   rw [<- Nat.zero_add x.toNat, <- Nat.zero_add y.toNat] at hst
   refine Runs.mk a0k Tryz.call122 Tryz.func122 rfl Tryz.ntmps122 Tryz.results122 rfl ?_
   (repeat' (first
  | refine SP ?_
  | (apply a0a <;> intro hb <;> (try simp only [nS, nT, eq_self, reduceCtorEq] at hb) <;> (try (exfalso; omega)))
  | refine a0q (by decide +kernel) ?_
  | refine a0c ?_
  | refine OB ?_
  | ((first | apply a0t (hst) ); exact AS)
  | (apply a0v [some 0, some 1, some 2]; (focus (iterate 2 (all_goals (repeat' (first | exact a00 rfl rfl rfl | exact a0l a0y rfl (fun _ _ => rfl) | exact a0g | exact trivial | refine SP ?_ | refine And.intro ?_ ?_ | refine a0d ?_ ?_ | refine a1i ?_ | refine a1c ?_ | exact a0b _ _ | exact a0w rfl | exact a0j rfl rfl rfl ))))); any_goals (apply a0e; rfl))
  ))
  ·have e : b36 (ns.getD x.toNat nd0).id (ns.getD y.toNat nd0).id p q o f = (default, false) := by unfold b36; rw [if_neg h1, if_neg h2]
   rw [e]
   generalize hD : ({ f with st := f.st + 1, se := (ns.getD x.toNat nd0).id, sp := p, re := (ns.getD y.toNat nd0).id, rp := q } : DS) = D at *
   have hDs : D.st = f.st + 1 := by rw [<- hD]
   rw [<- Nat.zero_add x.toNat, <- Nat.zero_add y.toNat] at hst
   refine Runs.mk a0k Tryz.call122 Tryz.func122 rfl Tryz.ntmps122 Tryz.results122 rfl ?_
   (repeat' (first
  | refine SP ?_
  | (apply a0a <;> intro hb <;> (try simp only [nS, nT, eq_self, reduceCtorEq] at hb) <;> (try (exfalso; omega)))
  | refine a0q (by decide +kernel) ?_
  | refine a0c ?_
  | refine OB ?_
  | ((first | apply a0t (hst) ); exact AS)
  | (apply a0v [some 0, some 1, some 2]; (focus (iterate 2 (all_goals (repeat' (first | exact a00 rfl rfl rfl | exact a0l a0y rfl (fun _ _ => rfl) | exact a0g | exact trivial | refine SP ?_ | refine And.intro ?_ ?_ | refine a0d ?_ ?_ | refine a1i ?_ | refine a1c ?_ | exact a0b _ _ | exact a0w rfl | exact a0j rfl rfl rfl ))))); any_goals (apply a0e; rfl))
  ))
end Go.Vx.L58
set_option maxRecDepth 100000
namespace Go.Vx.L58
open Go Go.Proofs
def Ex1 {α : Type} (p : α -> Prop) (V : α -> AV) (B : α -> List Blk) : AV -> List Blk -> Prop := fun v b => ∃ a, p a /\ v = V a /\ b = B a
theorem d1s {α : Type} {p : α -> Prop} {V : α -> AV} {B : α -> List Blk} {L : List Blk} {y : AV} {bs : Nat -> Blk} {f : Nat} (a : α) (ha : p a) (xs : Ix) (h45 : sub xs.at (V a) y /\ a30 xs.at bs xs (B a)) (h : c49 L (B a) xs = true) :
  ∃ (V' : AV) (Bl : List Blk) (xs : Ix) (gs : List Gh), a13 L.length 0 xs = true /\ (a4b xs Bl).nodup = true /\ b58 L Bl /\ sub xs.at V' y /\ (ghK f gs bs [] fun acc => a30 xs.at (a1g bs acc) xs Bl) /\ Ex1 p V B V' Bl := by
 obtain ⟨a1, b1, c1⟩ := b7h h
 exact ⟨V a, B a, xs, [], a1, b1, c1, h45.1, h45.2, a, ha, rfl, rfl⟩
theorem d1d {P : Program} {α : Type} {p : α -> Prop} {V : α -> AV} {B : α -> List Blk} {g : FuncId} {args : List AV} {bs : Nat -> Blk} {sl : Nat} {K : AV -> List (Nat × Blk) -> Nat -> Prop} (xs : Ix) {args' : List AV} {L : List Blk} (hR : Runs P g args' L (Ex1 p V B))
  (h12 : a4j xs.at args' args /\ a30 xs.at (look bs) xs L) (h3 : a8p bs xs L = true) (hK : ∀ a, p a -> K ((V a).ren (rb xs sl)) (a1o xs sl xs L (B a) 0 ++ a3t bs sl xs L) (upF sl L (B a))) : a82 P g args bs sl K :=
 ⟨[], xs, args', L, _, hR, h12.1, h12.2, h3, by rintro _ _ ⟨a, ha, rfl, rfl⟩; rw [List.append_nil]; exact hK a ha⟩
theorem d2d {l : List (List Int)} {S : List (List Int)} {Y : List Int -> Prop} (h2 : ∀ k ∈ l, ∃ a p : Int, k = [a, p]) (h : ∀ a p, [a, p] ∈ l -> [a, p] ∉ S -> Y [a, p]) : ∀ k, k ∈ l -> k ∉ S -> Y k := fun k hk hS => by
 obtain ⟨a, p, rfl⟩ := h2 k hk
 exact h a p hk hS
theorem b8o : ∀ (l m : List (List Int)), l.Nodup -> (∀ k ∈ l, k ∈ m) -> l.length <= m.length
 | [], m, _, _ => by simp
 | a :: r, m, h, hs => by
  simp only [List.nodup_cons] at h
  have ha := hs a (by simp)
  have := b8o r (m.erase a) h.2 fun k hk => by
   have : k ≠ a := fun e => h.1 (e ▸ hk)
   exact (List.mem_erase_of_ne this).2 (hs k (by simp [hk]))
  rw [List.length_erase_of_mem ha] at this
  have : 0 < m.length := List.length_pos_of_mem ha
  simp only [List.length_cons]; omega
def c3g (m : Mm) : Mm := { m with age := m.age + 1 }
def agS (s : MS) (V : List (List Int)) : MS := ⟨V.filter (fun k => decide ((s.g k).age + 1 < 3)), fun k => c3g (s.g k)⟩
def wrS (s : MS) (t : Int × Int) (d : DS) : MS := ⟨addKey s.ks [t.1, t.2], fun k => bif k == [t.1, t.2] then ⟨t.1, t.2, 0, d⟩ else s.g k⟩
theorem d1y {ρ : Nat -> Option Nat} {nx : MS} {t : Int × Int} {d : DS} {v : AV} (hv : sub ρ (meA ⟨t.1, t.2, 0, d⟩) v) : a3v ρ (mB (wrS nx t d)) (.map (some 2) (addKey nx.ks [t.1, t.2]) (b1d (fun k => meA (nx.g k)) [t.1, t.2] v)) := by
 refine a9h a1b rfl ?_ fun x _ hne => ?_
 ·show sub ρ (meA ((wrS nx t d).g [t.1, t.2])) v
  have : (wrS nx t d).g [t.1, t.2] = ⟨t.1, t.2, 0, d⟩ := by simp [wrS]
  rw [this]; exact hv
 ·have : (wrS nx t d).g x = nx.g x := by
   have e : (x == [t.1, t.2]) = false := by simpa using hne
   simp only [wrS, e, cond_false]
  show meA (nx.g x) = meA ((wrS nx t d).g x)
  rw [this]
theorem d2f {s : MS} {V : List (List Int)} {n : List Int} (hn : n ∉ V) (ha : (s.g n).age + 1 < 3) : (agS s (V ++ [n])).ks = addKey (agS s V).ks n := by
 have h1 : (agS s V).ks.contains n = false := by
  rw [Bool.eq_false_iff]; intro h
  rw [List.contains_iff_mem] at h
  exact hn (List.mem_filter.1 h).1
 unfold addKey
 rw [h1, cond_false]
 show (V ++ [n]).filter _ = V.filter _ ++ [n]
 rw [List.filter_append]
 simp [ha]
theorem d5l {s : MS} {V : List (List Int)} {n : List Int} (ha : ¬ (s.g n).age + 1 < 3) : agS s (V ++ [n]) = agS s V := by
 unfold agS
 rw [List.filter_append]
 simp [ha]
theorem d2o {ρ : Nat -> Option Nat} {s : MS} {V : List (List Int)} {n : List Int} {v : AV} (hn : n ∉ V) (ha : (s.g n).age + 1 < 3) (hv : sub ρ (meA (c3g (s.g n))) v) : a3v ρ (mB (agS s (V ++ [n]))) (.map (some 2) (addKey (agS s V).ks n) (b1d (fun k => meA ((agS s V).g k)) n v)) :=
 a9h a1b (d2f hn ha).symm hv fun _ _ _ => rfl
def sdP (ns : List Nd) (gp : List Int -> Int × Int) (s : MS) (x : Nat) (nx : MS) (p : Int) : MS :=
 if ann (a4v (owD (ns.getD x nd0)) (hrX s x 8) (p - 1).toNat) = true then
  (if (b36 (ns.getD x nd0).id (ns.getD (gp [(x : Int), p]).1.toNat nd0).id p (gp [(x : Int), p]).2 (owD (ns.getD x nd0)) (a5r (owD (ns.getD x nd0)) (hrX s x 8))).2 = true then
   wrS nx (gp [(x : Int), p]) (b36 (ns.getD x nd0).id (ns.getD (gp [(x : Int), p]).1.toNat nd0).id p (gp [(x : Int), p]).2 (owD (ns.getD x nd0)) (a5r (owD (ns.getD x nd0)) (hrX s x 8))).1 else nx)
 else nx
def sdN (ns : List Nd) (rs : List (List Int)) (gp : List Int -> Int × Int) (s : MS) (nx : MS) (x : Nat) : MS := (rs.getD x []).foldl (sdP ns gp s x) nx
def sdA (ns : List Nd) (rs : List (List Int)) (gp : List Int -> Int × Int) (s nx : MS) : Nat -> MS
 | 0 => nx
 | x + 1 => sdN ns rs gp s (sdA ns rs gp s nx x) x
structure FOK (ns : List Nd) (rs pk : List (List Int)) (gp : List Int -> Int × Int) : Prop where
 n1 : 1 <= ns.length
 n24 : ns.length <= 24
 rl : rs.length = ns.length
 row : ∀ x, x < ns.length -> (rs.getD x []).length <= 8
 prt : ∀ x p, p ∈ rs.getD x [] -> (1 <= p /\ p <= 8) /\ [(x : Int), p] ∈ pk /\ (0 <= (gp [(x : Int), p]).1 /\ (gp [(x : Int), p]).1 < ns.length) /\ (1 <= (gp [(x : Int), p]).2 /\ (gp [(x : Int), p]).2 <= 8)
 pk : ∀ k ∈ pk, ∃ (x : Nat) (p : Int), k = [(x : Int), p] /\ x < ns.length /\ p ∈ rs.getD x []
 wf : ∀ x, wfD (owD (ns.getD x nd0))
 cl : ∀ x, x < ns.length -> 127 < (ns.getD x nd0).cl
structure SOK (ns : List Nd) (pk : List (List Int)) (s : MS) : Prop where
 key : ∀ k ∈ s.ks, k = [(s.g k).node, (s.g k).port]
 vl : ∀ k ∈ s.ks, vlM ns pk (s.g k) = true
 wf : ∀ k ∈ s.ks, wfD (s.g k).set
theorem c9m : wfD default := by
 refine ⟨?_, ?_, ?_, ?_, ?_, ?_, ?_, ?_, ?_, ?_, ?_⟩ <;> first | (show inI 0; unfold inI; omega) | (show inU 0; unfold inU; omega)
theorem a2x {ns : List Nd} {pk : List (List Int)} {m : Mm} (h : vlM ns pk m = true) : [m.node, m.port] ∈ pk /\ (0 <= m.age /\ m.age < 3) /\ (0 <= m.set.st /\ m.set.st < 32) /\ [m.set.p1, m.set.cl, m.set.ac, m.set.va, m.set.p2, m.set.sp, m.set.rp].all wrd = true /\ m.set.re = (ns.getD m.node.toNat nd0).id /\ m.set.rp = m.port := by
 unfold vlM at h
 rw [decide_eq_true_eq] at h
 obtain ⟨h1, h2⟩ := h
 exact ⟨by simpa using h1, h2⟩
theorem b59 (s : MS) (n : Int) (x i : Nat) : (hrX s n x).getD i none = if i < 8 /\ i < x /\ s.ks.contains [n, ((i + 1 : Nat) : Int)] = true then some (s.g [n, ((i + 1 : Nat) : Int)]).set else none := by
 by_cases h : i < 8
 ·simp only [hrX, List.getD_eq_getElem?_getD, List.getElem?_map, List.getElem?_range, h, if_true, Option.map_some, Option.getD_some, true_and]
 ·rw [List.getD_eq_getElem?_getD, List.getElem?_eq_none (by rw [a8f]; omega), if_neg (fun e => h e.1)]; rfl
theorem b7w {ns : List Nd} {pk : List (List Int)} {s : MS} (hS : SOK ns pk s) (n : Int) (x : Nat) : wfP (hrX s n x) := fun i => by
 unfold a1p
 rw [b59]
 split
 ·rename_i h
  have hm : [n, ((i + 1 : Nat) : Int)] ∈ s.ks := by simpa using h.2.2
  have := (a2x (hS.vl _ hm)).2.2.1
  exact ⟨hS.wf _ hm, this.1, by show (s.g _).set.st <= 1000000; omega⟩
 ·exact ⟨c9m, by decide, by decide⟩
theorem c19 {ns : List Nd} {pk : List (List Int)} {s : MS} (hS : SOK ns pk s) (o : DS) (ho : o.st = 0) (n : Int) : 0 <= (a5r o (hrX s n 8)).st /\ (a5r o (hrX s n 8)).st < 32 := by
 unfold a5r
 split
 ·omega
 ·unfold a1p
  rw [b59]
  split
  ·rename_i h
   have hm : [n, (((a2w (hrX s n 8)).toNat + 1 : Nat) : Int)] ∈ s.ks := by simpa using h.2.2
   exact (a2x (hS.vl _ hm)).2.2.1
  ·decide
set_option maxHeartbeats 4000000 in
theorem c5r (ns : List Nd) (cap : Option Nat) (rs pk : List (List Int)) (gp : List Int -> Int × Int) (hF : FOK ns rs pk gp) (s : MS) (hS : SOK ns pk s) :
  Runs Tryz.prog 81 [aF ns cap rs, .map 3] [ndB ns, nR rs.length rs, peB pk gp, mB s] (Ex1 (fun W => W.Nodup /\ ∀ k, k ∈ W ↔ k ∈ s.ks) (fun _ => .map 4) (fun W => [ndB ns, nR rs.length rs, peB pk gp, mB s, mB (sdA ns rs gp s (agS s W) ns.length)])) := by
 have hk2 : ∀ k ∈ s.ks, ∃ a p : Int, k = [a, p] := fun k hk => ⟨_, _, hS.key k hk⟩
 have hage : ∀ k ∈ s.ks, 0 <= (s.g k).age /\ (s.g k).age < 3 := fun k hk => (a2x (hS.vl k hk)).2.1
 refine Runs.mk a0k Tryz.call81 Tryz.func81 rfl Tryz.ntmps81 Tryz.results81 rfl ?_
 (repeat' (first
  | refine SP ?_
  | refine d3v (fun es clock => ?_)
  | refine a0c ?_
  ))
 refine a0p (σ := List (List Int)) (fun x => x.Nodup /\ (∀ k ∈ x, k ∈ s.ks) /\ x.length <= s.ks.length) (fun x => ⟨[(1, .map 3), (2, .ptr 4 3 0 0), (5, .map 5), (22, .ptr 6 1 0 0)], [ndB ns, nR rs.length rs, peB pk gp, .mapg (some 2) s.ks (fun k => meA (s.g k)) es clock, .var [.sl 0 6 0 ns.length cap, .sl 1 1 0 rs.length none, .map 2], mB (agS s x), .iter 3 (some 2) es clock x none]⟩) (fun x => s.ks.length - x.length) ([]) ?_ ?_ ?_
 ·simp
 ·(apply a04 [some 0, some 1, some 2, some 3, some 4, some 5, some 6]; (focus (iterate 2 (all_goals (repeat' (first | exact a00 rfl rfl rfl | exact a0l a0y rfl (fun _ _ => rfl) | exact a7x a1b | exact b0b rfl rfl | exact a02 rfl | refine map_mk ?_ ?_ | exact a0g | exact trivial | refine SP ?_ | refine And.intro ?_ ?_ | refine a0d ?_ ?_ | refine a09 ?_ | exact a0z rfl rfl | exact a0r rfl rfl rfl | exact a0j rfl rfl rfl ))))); any_goals (apply a0e; rfl))
  ·rfl
  ·intro x hx; cases hx
 rintro V ⟨hV1, hV2, hV3⟩
 have hw : ∀ k ∈ s.ks, IntKind.i64.wrap ((s.g k).age + 1) = (s.g k).age + 1 := fun k hk => by
  have := hage k hk; exact a8c (by omega) (by omega)
 have hinv : ∀ n, n ∈ s.ks -> n ∉ V -> ((V ++ [n]).Nodup /\ (∀ k ∈ V ++ [n], k ∈ s.ks) /\ (V ++ [n]).length <= s.ks.length) /\ s.ks.length - (V ++ [n]).length < s.ks.length - V.length := by
  intro n h1 h2
  have h3 : (V ++ [n]).Nodup := by
   rw [List.nodup_append]; exact ⟨hV1, by simp, by rintro a ha b hb rfl; simp only [List.mem_singleton] at hb; subst hb; exact h2 ha⟩
  have h4 : ∀ k ∈ V ++ [n], k ∈ s.ks := fun k hk => by
   rcases List.mem_append.1 hk with hk | hk
   ·exact hV2 k hk
   ·simp only [List.mem_singleton] at hk; subst hk; exact h1
  have h5 := b8o _ _ h3 h4
  refine ⟨⟨h3, h4, h5⟩, ?_⟩
  rw [List.length_append] at h5 ⊢
  simp only [List.length_cons, List.length_nil] at h5 ⊢
  omega
 (repeat' (first
  | refine SP ?_
  | (apply a0a <;> intro hb <;> (try simp only [nS, nT, eq_self, reduceCtorEq] at hb) <;> (try (exfalso; fail; done)))
  | refine d1w rfl rfl rfl (fun hend => ?_) (d2d hk2 (fun a p hn hkS => ?_))
  | refine d3c rfl rfl rfl ?_
  ))
 rotate_left
 ·have hw1 := hw _ hn
  obtain ⟨hi1, hi2⟩ := hinv _ hn hkS
  (apply a0i (Subtype.mk (V ++ [[a, p]]) hi1); (focus (skip; apply a04 [some 0, some 1, some 2, some 3, some 4, some 5, some 6]; (focus (iterate 2 (all_goals (repeat' (first | exact a00 rfl rfl rfl | exact a0l a0y rfl (fun _ _ => rfl) | exact a7x a1b | exact b0b rfl rfl | refine d2o (by assumption) (by omega) ?_ | exact a02 rfl | exact a0g | exact trivial | refine SP ?_ | refine And.intro ?_ ?_ | refine a0d ?_ ?_ | refine a1i ?_ | refine a09 ?_ | exact a0z rfl rfl | exact a0r rfl rfl rfl | exact a0b _ _ | exact a0j rfl rfl rfl | (refine And.left (b := True) ⟨?_, True.intro⟩; assumption) | refine a0f ?_ ))))); any_goals (apply a0e; rfl))); (all_goals (try (omega))))
  all_goals first
   | exact hi2
   | fail
 ·have hw1 := hw _ hn
  obtain ⟨hi1, hi2⟩ := hinv _ hn hkS
  have hno : agS s (V ++ [[a, p]]) = agS s V := d5l (by omega)
  (apply a0i (Subtype.mk (V ++ [[a, p]]) hi1); (focus (rw [hno]; apply a04 [some 0, some 1, some 2, some 3, some 4, some 5, some 6]; (focus (iterate 2 (all_goals (repeat' (first | exact a00 rfl rfl rfl | exact a0l a0y rfl (fun _ _ => rfl) | exact a0l a1b rfl (fun _ _ => rfl) | exact a7x a1b | exact b0b rfl rfl | exact a02 rfl | exact a0g | exact trivial | refine SP ?_ | refine And.intro ?_ ?_ | refine a0d ?_ ?_ | refine a09 ?_ | exact a0z rfl rfl | exact a0r rfl rfl rfl | exact a0j rfl rfl rfl ))))); any_goals (apply a0e; rfl))); (all_goals (try (omega))))
  all_goals first
   | exact hi2
   | fail
 have hVk : ∀ k, k ∈ V ↔ k ∈ s.ks := fun k => ⟨hV2 k, hend k⟩
 clear hinv hw
 generalize hA0 : agS s V = a0 at *
 have hrl := hF.rl
 have hn24 := hF.n24
 (repeat' (first
  | refine SP ?_
  | refine a0c ?_
  ))
 refine a0p (σ := Nat) (fun x => x <= ns.length) (fun x => ⟨[(1, .map 3), (2, .ptr 4 3 0 0), (5, .map 5), (40, .val (.int .i64 ns.length)), (41, .val (.int .i64 x))], [ndB ns, nR rs.length rs, peB pk gp, mB s, .var [.sl 0 6 0 ns.length cap, .sl 1 1 0 rs.length none, .map 2], mB (sdA ns rs gp s a0 x)]⟩) (fun x => ns.length - x) (0) ?_ ?_ ?_
 ·omega
 ·(apply a04 [some 0, some 1, some 2, some 3, some 4, some 5]; (focus (iterate 2 (all_goals (repeat' (first | exact a00 rfl rfl rfl | exact a0l a0y rfl (fun _ _ => rfl) | exact a0l a1b rfl (fun _ _ => rfl) | exact a02 rfl | exact a0g | exact trivial | refine SP ?_ | refine And.intro ?_ ?_ | refine a0d ?_ ?_ | refine a09 ?_ | exact a0z rfl rfl | exact a0r rfl rfl rfl | exact a0b _ _ | exact a0j rfl rfl rfl ))))); any_goals (apply a0e; rfl))
 rintro z hz
 by_cases hzl : z < ns.length
 ·have hz0 : 0 + Int.toNat (z : Int) = z := by omega
  have hown := c8f ns cap rs pk gp z hzl
  have hhe := b81 s z
  have hHl := a8f s z 8
  have hde := b0i (owD (ns.getD z nd0)) (hrX s z 8) none (by omega) (b7w hS z 8) (hF.wf z) (hF.cl z hzl)
  have hma := c1g (owD (ns.getD z nd0)) (hrX s z 8) none (by omega) (b7w hS z 8) (hF.wf z) (hF.cl z hzl)
  have hst := c19 hS (owD (ns.getD z nd0)) rfl z
  have hsA : sdA ns rs gp s a0 (z + 1) = (rs.getD z []).foldl (sdP ns gp s z) (sdA ns rs gp s a0 z) := rfl
  have hprt := hF.prt z
  have hrow := hF.row z hzl
  have hsP : ∀ (nx : MS) (p : Int), sdP ns gp s z nx p = if ann (a4v (owD (ns.getD z nd0)) (hrX s z 8) (p - 1).toNat) = true then
    (if (b36 (ns.getD z nd0).id (ns.getD (gp [(z : Int), p]).1.toNat nd0).id p (gp [(z : Int), p]).2 (owD (ns.getD z nd0)) (a5r (owD (ns.getD z nd0)) (hrX s z 8))).2 = true then
     wrS nx (gp [(z : Int), p]) (b36 (ns.getD z nd0).id (ns.getD (gp [(z : Int), p]).1.toNat nd0).id p (gp [(z : Int), p]).2 (owD (ns.getD z nd0)) (a5r (owD (ns.getD z nd0)) (hrX s z 8))).1 else nx)
    else nx := fun _ _ => rfl
  have hcl2 : (a7s (owD (ns.getD z nd0)) (hrX s z 8)).length = 8 := by rw [a2p]; exact hHl
  have hcg : ∀ y, y < 8 -> (a7s (owD (ns.getD z nd0)) (hrX s z 8)).getD y 0 = a4v (owD (ns.getD z nd0)) (hrX s z 8) y := fun y hy => a5q _ _ _ _ (by rw [hHl]; exact hy)
  generalize hsA0 : sdA ns rs gp s a0 (z + 1) = nx' at *
  generalize sdA ns rs gp s a0 z = nx at *
  generalize hO : owD (ns.getD z nd0) = o at *
  generalize hrX s z 8 = H at *
  generalize a7s o H = C at *
  generalize a5r o H = f at *
  generalize hW : rs.getD z [] = W at *
  have hW' : (b1e b3h 0 rs (0 + Int.toNat (z : Int))).1 = W.length := by rw [hz0, a7c, hW]
  have hW2 : (b1e b3h 0 rs z).1 = W.length := by rw [a7c, hW]
  (repeat' (first
  | refine SP ?_
  | (apply a0a <;> intro hb <;> (try simp only [nS, nT, eq_self, reduceCtorEq] at hb) <;> (try (exfalso; omega)))
  | refine a0c ?_
  | refine OB ?_
  | ((first | apply a1a [some 0, some 1, some 2] (hown) ); (focus ((iterate 2 (all_goals (repeat' (first | exact a00 rfl rfl rfl | exact a0l a0y rfl (fun _ _ => rfl) | exact a02 rfl | exact a0g | exact trivial | refine SP ?_ | refine And.intro ?_ ?_ | refine a0d ?_ ?_ | refine a1i ?_ | exact a0r rfl rfl rfl | exact a0b _ _ | exact a0j rfl rfl rfl )))))); any_goals (apply a1j; rfl))
  | ((first | apply a1z (hhe) ); (focus (iterate 2 (all_goals (repeat' (first | exact a0l a1b rfl (fun _ _ => rfl) | exact a02 rfl | exact a0g | exact trivial | refine SP ?_ | refine And.intro ?_ ?_ | refine a0d ?_ ?_ | exact a0b _ _ ))))); (try (any_goals fail)))
  | ((first | apply a1z (hde) ); exact AS; (try (any_goals fail)))
  | ((first | apply a1z (hma) ); exact AS; (try (any_goals fail)))
  ))
  refine a0p (σ := Nat) (fun x => x <= W.length) (fun x => ⟨[(1, .map 3), (2, .ptr 4 3 0 0), (5, .map 5), (8, .val (.int .i64 z)), (9, .ptr 6 11 0 0), (11, .sl 7 1 0 C.length none), (13, .ptr 8 11 0 0), (40, .val (.int .i64 ns.length)), (41, .val (.int .i64 z)), (65, .sl 9 1 0 W.length none), (66, .val (.int .i64 W.length)), (67, .val (.int .i64 x))], [ndB ns, nR rs.length rs, peB pk gp, mB s, .var [.sl 0 6 0 ns.length cap, .sl 1 1 0 rs.length none, .map 2], mB ((W.take x).foldl (sdP ns gp s z) nx), .var (dC o), iB true C, .var (dC f), .row 1 z]⟩) (fun x => W.length - x) (0) ?_ ?_ ?_
  ·omega
  ·(apply a04 [some 0, some 1, some 2, some 3, some 4, some 5, some 7, some 8, some 9, some 10]; (focus (iterate 2 (all_goals (repeat' (first | exact a00 rfl rfl rfl | (refine a6u rfl ?_) | exact a0l a0y rfl (fun _ _ => rfl) | exact a0l a1b rfl (fun _ _ => rfl) | exact a02 rfl | exact a0g | exact trivial | refine SP ?_ | refine And.intro ?_ ?_ | refine a0d ?_ ?_ | refine a09 ?_ | exact a0z rfl rfl | exact a0r rfl rfl rfl | exact a0b _ _ | exact a0j rfl rfl rfl | exact a5o rfl rfl rfl | ((first | refine a0f ?_ | refine a0r rfl rfl ?_ | show (_ : Nat) = _); first | with_reducible rfl | omega | ((try simp only [wS]); omega) | rfl) ))))); any_goals (apply a0e; rfl))
  rintro j hj
  by_cases hjW : j < W.length
  ·have hzj : 0 + Int.toNat (j : Int) = j := by omega
   have hS2 := a8o (sdP ns gp s z) nx W j 0 hjW
   have hP := hprt _ (a2s W j 0 hjW)
   rw [hsP] at hS2
   have hPe : (rs.getD z []).getD (0 + Int.toNat (j : Int)) 0 = W.getD j 0 := by rw [hW, hzj]
   rw [<- hPe] at hS2 hP
   generalize hq' : (W.take (j + 1)).foldl (sdP ns gp s z) nx = q' at *
   generalize (W.take j).foldl (sdP ns gp s z) nx = q at *
   obtain ⟨⟨p1, p8⟩, hpk, ⟨t0, t1⟩, t2⟩ := hP
   have hwr : IntKind.i64.wrap ((rs.getD z []).getD (0 + Int.toNat (j : Int)) 0 - 1) = (rs.getD z []).getD (0 + Int.toNat (j : Int)) 0 - 1 := a8c (by omega) (by omega)
   have hcd : C.getD (0 + Int.toNat (IntKind.i64.wrap ((rs.getD z []).getD (0 + Int.toNat (j : Int)) 0 - 1))) 0 = a4v o H ((rs.getD z []).getD (0 + Int.toNat (j : Int)) 0 - 1).toNat := by rw [hwr, Nat.zero_add]; exact hcg _ (by omega)
   have hann := d3g (C.getD (0 + Int.toNat (IntKind.i64.wrap ((rs.getD z []).getD (0 + Int.toNat (j : Int)) 0 - 1))) 0)
   rw [hcd] at hann
   cases hA : ann (a4v o H ((rs.getD z []).getD (0 + Int.toNat (j : Int)) 0 - 1).toNat)
   ·rw [hA] at hann hS2
    rw [if_neg (by simp)] at hS2
    rw [<- hcd] at hann
    (repeat' (first
  | refine SP ?_
  | (apply a0a <;> intro hb <;> (try simp only [nS, nT, eq_self, reduceCtorEq] at hb) <;> (try (exfalso; omega)))
  | refine a0c ?_
  | refine OB ?_
  | ((first | apply a0t (hann) ); exact AS)
  | (apply a0i (Subtype.mk (j + 1) (by first | omega | (simp only; omega))); (focus (rw [hq', hS2]; apply a04 [some 0, some 1, some 2, some 3, some 4, some 5, some 6, some 7, some 8, some 9]; (focus (iterate 2 (all_goals (repeat' (first | exact a00 rfl rfl rfl | exact a6u rfl rfl | exact a0l a0y rfl (fun _ _ => rfl) | exact a0l a1b rfl (fun _ _ => rfl) | exact a02 rfl | exact a0g | exact trivial | refine SP ?_ | refine And.intro ?_ ?_ | refine a0d ?_ ?_ | refine a09 ?_ | exact a0z rfl rfl | exact a0r rfl rfl rfl | exact a0b _ _ | exact a0j rfl rfl rfl | ((refine a0f ?_); first | with_reducible rfl | omega | ((try simp only [wS]); omega) | rfl) ))))); any_goals (apply a0e; rfl))); (all_goals (try (first | (simp only; omega)))))
  ))
   ·rw [hA] at hann hS2
    rw [if_pos rfl] at hS2
    rw [<- hcd] at hann
    generalize ht : gp [(z : Int), (rs.getD z []).getD (0 + Int.toNat (j : Int)) 0] = t at *
    obtain ⟨u, v⟩ := t
    have hse := c89 ns cap rs pk gp z u ((rs.getD z []).getD (0 + Int.toNat (j : Int)) 0) v ⟨by omega, by omega⟩ ⟨t0, t1⟩ o f hst
    rw [show ((z : Nat) : Int).toNat = z from Int.toNat_natCast z] at hse
    have hh : pk.contains [(z : Int), (rs.getD z []).getD (0 + Int.toNat (j : Int)) 0] = true := by simpa using hpk
    generalize b36 (ns.getD z nd0).id (ns.getD u.toNat nd0).id ((rs.getD z []).getD (0 + Int.toNat (j : Int)) 0) v o f = r at *
    obtain ⟨D, b⟩ := r
    cases b
    ·rw [if_neg (by simp)] at hS2
     (repeat' (first
  | refine SP ?_
  | (with_reducible refine a07 ?_)
  | (apply a0a <;> intro hb <;> (try simp only [nS, nT, eq_self, reduceCtorEq] at hb) <;> (try (exfalso; (first | omega | (rw [hh] at hb; cases hb)); done)))
  | refine a0c ?_
  | refine OB ?_
  | ((first | apply a0t (hann) ); exact AS)
  | (rw [ht])
  | ((first | apply a1a [some 0, some 1, some 2] (hse) ); (focus ((iterate 2 (all_goals (repeat' (first | exact a00 rfl rfl rfl | exact a0l a0y rfl (fun _ _ => rfl) | exact a02 rfl | exact a0g | exact trivial | refine SP ?_ | refine And.intro ?_ ?_ | refine a0d ?_ ?_ | refine a1i ?_ | exact a0r rfl rfl rfl | exact a0b _ _ | exact a0j rfl rfl rfl )))))); any_goals (apply a1j; rfl))
  | (apply a0i (Subtype.mk (j + 1) (by first | omega | (simp only; omega))); (focus (rw [hq', hS2]; apply a04 [some 0, some 1, some 2, some 3, some 4, some 5, some 6, some 7, some 8, some 9]; (focus (iterate 2 (all_goals (repeat' (first | exact a00 rfl rfl rfl | exact a6u rfl rfl | exact a0l a0y rfl (fun _ _ => rfl) | exact a0l a1b rfl (fun _ _ => rfl) | exact a02 rfl | exact a0g | exact trivial | refine SP ?_ | refine And.intro ?_ ?_ | refine a0d ?_ ?_ | refine a09 ?_ | exact a0z rfl rfl | exact a0r rfl rfl rfl | exact a0b _ _ | exact a0j rfl rfl rfl | ((refine a0f ?_); first | with_reducible rfl | omega | ((try simp only [wS]); omega) | rfl) ))))); any_goals (apply a0e; rfl))); (all_goals (try (first | (simp only; omega)))))
  ))
    ·rw [if_pos rfl] at hS2
     (repeat' (first
  | refine SP ?_
  | (with_reducible refine a01 ?_)
  | (apply a0a <;> intro hb <;> (try simp only [nS, nT, eq_self, reduceCtorEq] at hb) <;> (try (exfalso; (first | omega | (rw [hh] at hb; cases hb)); done)))
  | refine a0c ?_
  | refine OB ?_
  | ((first | apply a0t (hann) ); exact AS)
  | (rw [ht])
  | ((first | apply a1a [some 0, some 1, some 2] (hse) ); (focus ((iterate 2 (all_goals (repeat' (first | exact a00 rfl rfl rfl | exact a0l a0y rfl (fun _ _ => rfl) | exact a02 rfl | exact a0g | exact trivial | refine SP ?_ | refine And.intro ?_ ?_ | refine a0d ?_ ?_ | refine a1i ?_ | exact a0r rfl rfl rfl | exact a0b _ _ | exact a0j rfl rfl rfl )))))); any_goals (apply a1j; rfl))
  | (apply a0i (Subtype.mk (j + 1) (by first | omega | (simp only; omega))); (focus (rw [hq', hS2]; apply a04 [some 0, some 1, some 2, some 3, some 4, some 5, some 6, some 7, some 8, some 9]; (focus (iterate 2 (all_goals (repeat' (first | exact a00 rfl rfl rfl | exact a6u rfl rfl | exact a0l a0y rfl (fun _ _ => rfl) | exact a0l a1b rfl (fun _ _ => rfl) | refine d1y ?_ | exact a02 rfl | exact a0g | exact trivial | refine SP ?_ | refine And.intro ?_ ?_ | refine a0d ?_ ?_ | refine a1i ?_ | refine a09 ?_ | exact a0z rfl rfl | exact a0r rfl rfl rfl | exact a0b _ _ | exact a0j rfl rfl rfl | ((refine a0f ?_); first | with_reducible rfl | omega | ((try simp only [wS]); omega) | rfl) ))))); any_goals (apply a0e; rfl))); (all_goals (try (first | (simp only; omega)))))
  ))
  ·have hjj : W.length = j := by omega
   subst hjj
   rw [List.take_length]
   have hnx : nx' = W.foldl (sdP ns gp s z) nx := hsA
   rw [<- hnx]
   have hsz : sdA ns rs gp s a0 (z + 1) = nx' := by rw [hsA0]
   (repeat' (first
  | refine SP ?_
  | (apply a0a <;> intro hb <;> (try simp only [nS, nT, eq_self, reduceCtorEq] at hb) <;> (try (exfalso; omega)))
  | (apply a0i (Subtype.mk (z + 1) (by first | omega | (simp only; omega))); (focus (rw [hsz]; apply a04 [some 0, some 1, some 2, some 3, some 4, some 5]; (focus (iterate 2 (all_goals (repeat' (first | exact a00 rfl rfl rfl | exact a0l a0y rfl (fun _ _ => rfl) | exact a0l a1b rfl (fun _ _ => rfl) | exact a02 rfl | exact a0g | exact trivial | refine SP ?_ | refine And.intro ?_ ?_ | refine a0d ?_ ?_ | refine a09 ?_ | exact a0z rfl rfl | exact a0r rfl rfl rfl | exact a0b _ _ | exact a0j rfl rfl rfl | ((refine a0f ?_); first | with_reducible rfl | omega | ((try simp only [wS]); omega) | rfl) ))))); any_goals (apply a0e; rfl))); (all_goals (try (first | (simp only; omega)))))
  ))
 ·obtain rfl : z = ns.length := by omega
  rw [<- hA0]
  (repeat' (first
  | refine SP ?_
  | (apply a0a <;> intro hb <;> (try simp only [nS, nT, eq_self, reduceCtorEq] at hb) <;> (try (exfalso; omega)))
  | (apply d1s V ⟨hV1, hVk⟩ [some 0, some 1, some 2, some 3, some 5]; (focus (iterate 2 (all_goals (repeat' (first | exact a00 rfl rfl rfl | exact a0l a0y rfl (fun _ _ => rfl) | exact a0l a1b rfl (fun _ _ => rfl) | exact a02 rfl | exact trivial | refine SP ?_ | refine And.intro ?_ ?_ | exact a0j rfl rfl rfl ))))); any_goals (apply a0e; rfl))
  ))
end Go.Vx.L58

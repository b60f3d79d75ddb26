/- Lemmas of a small executor for the model, and contracts of functions, used for the law that this claim proves. No condition. -/
import Derived.Test.YtodbfpjjahpahaaDoorBEA3
import Derived.Test.YtodbfpjjahpahaaDoorBW3
import Derived.Test.YtodbfpjjahpahaaDoorBT60
set_option linter.unusedSimpArgs false
set_option linter.unusedVariables false
set_option maxRecDepth 100000
namespace Go.Vx.L42.B
open Go Go.Proofs Go.Vx.L42
abbrev RS := Option (DS × List Int)
abbrev rvB (last : Int) (sl : AV) : Blk := .var [.val (.int .i64 4000), .val (.int .i64 1), .val (.int .i64 last), sl]
abbrev mB (d : DS) (n : Nat) : Blk := .var [.val (.int .u64 d.se), .val (.int .i64 d.sp), .val (.int .i64 d.p1), .val (.int .i64 d.cl), .val (.int .i64 d.ac), .val (.int .i64 d.va), .val (.int .i64 d.p2), .val (.int .u64 d.gm), .val (.int .i64 d.st), .val (.int .u64 d.se), .val (.int .i64 d.sp), .val (.int .u64 d.re), .val (.int .i64 d.rp), .sl 3 1 0 n none]
abbrev c7d (last : Int) : List Blk := [rvB last (.val (.slice none 0 0))]
abbrev lsB : Blk := .arr true 174 1 1 fun _ _ => .ptr 2 14 0 0
abbrev c7j (last : Int) (d : DS) (ts : List Int) : List Blk := [rvB last (.sl 1 1 0 1 none), lsB, mB d ts.length, .arr true 3 1 ts.length (a2x a78 0 ts)]
theorem c4m (last : Int) : Prec (c7d last) := by
 intro w ι ι' h h' h0 b hb
 obtain rfl : b = 0 := by simpa using hb
 obtain ⟨l, h1, _⟩ := a8p h (b := 0) rfl
 obtain ⟨l', h1', _⟩ := a8p h' (b := 0) rfl
 exact ⟨l, l', h1, h1', h0 l l' h1 h1'⟩
theorem c7k (last : Int) (d : DS) (ts : List Int) (hn : 0 < ts.length) : Prec (c7j last d ts) := by
 intro w ι ι' h h' h0 b hb
 obtain ⟨l0, a0, _⟩ := a8p h (b := 0) rfl
 obtain ⟨l0', a0', _⟩ := a8p h' (b := 0) rfl
 have g0 := h0 l0 l0' a0 a0'
 obtain ⟨c, r1, r2⟩ := b2i (b := 0) (h.br 0) (h'.br 0) a0 a0' g0 (j := 3) rfl
 obtain ⟨l1, l1', a1, a1', g1, o1⟩ := c3y (by omega) r1 r2
 obtain ⟨c2, r3, r4⟩ := c43 (b := 1) (h.br 1) (h'.br 1) a1 a1' g1 o1 (i := 0) (j := 0) (by omega) (by omega)
 obtain ⟨l2, l2', a2, a2', g2, _⟩ := b5l r3 r4
 obtain ⟨c3, r5, r6⟩ := b2i (b := 2) (h.br 2) (h'.br 2) a2 a2' g2 (j := 13) rfl
 obtain ⟨l3, l3', a3, a3', g3, _⟩ := c3y hn r5 r6
 have hb : b < 4 := hb
 have : b = 0 \/ b = 1 \/ b = 2 \/ b = 3 := by omega
 rcases this with rfl | rfl | rfl | rfl
 ·exact ⟨l0, l0', a0, a0', g0⟩
 ·exact ⟨l1, l1', a1, a1', g1⟩
 ·exact ⟨l2, l2', a2, a2', g2⟩
 ·exact ⟨l3, l3', a3, a3', g3⟩
def a3j (last : Int) : RS -> OP
 | none => a3r (c7d last) rfl (c4m last)
 | some (d, ts) => if h : 0 < ts.length then a3r (c7j last d ts) rfl (c7k last d ts h) else a3r (c7d last) rfl (c4m last)
theorem a58 (last : Int) : a3j last none = a3r (c7d last) rfl (c4m last) := rfl
theorem a5h (last : Int) (d : DS) (ts : List Int) (h : 0 < ts.length) : a3j last (some (d, ts)) = a3r (c7j last d ts) rfl (c7k last d ts h) := dif_pos h
structure CS where
 nd : Nd
 fol : DS
 last : Int
 st : Nat -> Int
 an : Nat -> Int
 mrk : Nat -> Int
 rl : Nat -> Int
 rc : Nat -> RS
abbrev b71 (nd : Nd) (f : DS) (last : Int) : Blk := .var [.val (.int .u64 nd.id), .val (.int .i64 nd.p1), .val (.int .i64 nd.cl), .val (.int .i64 nd.ac), .val (.int .i64 nd.va), .val (.int .i64 nd.p2), .val (.int .i64 0), .val (.int .i64 8), .val (.int .i64 4000), .val (.int .i64 1), .val (.int .i64 1), .map 1,
 .val (.int .i64 f.p1), .val (.int .i64 f.cl), .val (.int .i64 f.ac), .val (.int .i64 f.va), .val (.int .i64 f.p2), .val (.int .u64 f.gm), .val (.int .i64 f.st), .val (.int .u64 f.se), .val (.int .i64 f.sp), .val (.int .u64 f.re), .val (.int .i64 f.rp), .val (.int .i64 last)]
abbrev ks8 : List (List Int) := [[1], [2], [3], [4], [5], [6], [7], [8]]
def ptC : List Int -> AV := fun k => .ptr (1 + (k.headD 0).toNat) 6 0 0
abbrev c3q : Blk := .map none ks8 ptC
abbrev stB (s a m : Int) (r : Nat) : Blk := .var [.val (.int .i64 s), .ptr r 4 0 0, .dead, .val (.int .i64 a), .val (.int .i64 0), .val (.int .i64 m)]
abbrev c78 (c : CS) : List Blk := [b71 c.nd c.fol c.last, c3q,
 stB (c.st 0) (c.an 0) (c.mrk 0) 10, stB (c.st 1) (c.an 1) (c.mrk 1) 11, stB (c.st 2) (c.an 2) (c.mrk 2) 12, stB (c.st 3) (c.an 3) (c.mrk 3) 13, stB (c.st 4) (c.an 4) (c.mrk 4) 14, stB (c.st 5) (c.an 5) (c.mrk 5) 15, stB (c.st 6) (c.an 6) (c.mrk 6) 16, stB (c.st 7) (c.an 7) (c.mrk 7) 17,
 .obj (a3j (c.rl 0) (c.rc 0)), .obj (a3j (c.rl 1) (c.rc 1)), .obj (a3j (c.rl 2) (c.rc 2)), .obj (a3j (c.rl 3) (c.rc 3)), .obj (a3j (c.rl 4) (c.rc 4)), .obj (a3j (c.rl 5) (c.rc 5)), .obj (a3j (c.rl 6) (c.rc 6)), .obj (a3j (c.rl 7) (c.rc 7))]
theorem lt8 {i : Nat} (h : i < 8) : i = 0 \/ i = 1 \/ i = 2 \/ i = 3 \/ i = 4 \/ i = 5 \/ i = 6 \/ i = 7 := by omega
theorem c77 (c : CS) {i : Nat} (h : i < 8) : blL (c78 c) (2 + i) = stB (c.st i) (c.an i) (c.mrk i) (10 + i) := by
 rcases lt8 h with rfl | rfl | rfl | rfl | rfl | rfl | rfl | rfl <;> rfl
theorem b6y (c : CS) : Prec (c78 c) := by
 intro w ι ι' h h' h0 b hb
 obtain ⟨l0, a0, _⟩ := a8p h (b := 0) rfl
 obtain ⟨l0', a0', _⟩ := a8p h' (b := 0) rfl
 have g0 := h0 l0 l0' a0 a0'
 obtain ⟨cv, r1, r2⟩ := b2i (b := 0) (h.br 0) (h'.br 0) a0 a0' g0 (j := 11) rfl
 obtain ⟨l1, l1', a1, a1', g1⟩ := c4n r1 r2
 have st : ∀ i, i < 8 -> ∃ l l', ι (2 + i) = some l /\ ι' (2 + i) = some l' /\ l.g = l'.g := fun i hi => by
  have hk : ks8[i]? = some [(i : Int) + 1] := by rcases lt8 hi with rfl | rfl | rfl | rfl | rfl | rfl | rfl | rfl <;> rfl
  obtain ⟨cv, r3, r4⟩ := c02 (b := 1) (h.br 1) (h'.br 1) a1 a1' g1 hk
  have e : ptC [(i : Int) + 1] = .ptr (2 + i) 6 0 0 := by
   show AV.ptr (1 + ((i : Int) + 1).toNat) 6 0 0 = _
   congr 1; omega
  rw [e] at r3 r4
  obtain ⟨l, l', e1, e2, e3, _⟩ := b5l r3 r4
  exact ⟨l, l', e1, e2, e3⟩
 have rc : ∀ i, i < 8 -> ∃ l l', ι (10 + i) = some l /\ ι' (10 + i) = some l' /\ l.g = l'.g := fun i hi => by
  obtain ⟨l, l', e1, e2, e3⟩ := st i hi
  have h1 := h.br (2 + i)
  have h2 := h'.br (2 + i)
  rw [c77 c hi] at h1 h2
  obtain ⟨cv, r3, r4⟩ := b2i h1 h2 e1 e2 e3 (j := 1) rfl
  obtain ⟨m, m', f1, f2, f3, _⟩ := b5l r3 r4
  exact ⟨m, m', f1, f2, f3⟩
 have hb : b < 18 := hb
 have : b = 0 \/ b = 1 \/ (2 <= b /\ b < 10) \/ 10 <= b := by omega
 rcases this with rfl | rfl | h2 | h2
 ·exact ⟨l0, l0', a0, a0', g0⟩
 ·exact ⟨l1, l1', a1, a1', g1⟩
 ·have := st (b - 2) (by omega)
  rwa [show 2 + (b - 2) = b by omega] at this
 ·have := rc (b - 10) (by omega)
  rwa [show 10 + (b - 10) = b by omega] at this
def a1h (c : CS) : OP := a3r (c78 c) rfl (b6y c)
theorem a5x (c : CS) : a1h c = a3r (c78 c) rfl (b6y c) := rfl
end Go.Vx.L42.B
set_option maxRecDepth 100000
namespace Go.Vx.L42.B
open Go Go.Proofs Go.Vx.L42
structure MG where
 id : Int
 port : Int
 seq : Int
 d : DS
 deriving DecidableEq, Inhabited
abbrev mgM (m : MG) : List AV := [.val (.int .i64 11), .val (.int .i64 0), .val (.int .i64 0), .val (.int .i64 0), .val (.int .u64 m.id), .val (.int .i64 m.port), .val (.int .i64 m.seq), .val (.int .i64 0), .val (.int .i64 0), .val (.int .i64 0), .val (.int .u64 0), .val (.int .i64 0),
 .val (.int .i64 0), .val (.int .i64 m.d.p1), .val (.int .i64 m.d.cl), .val (.int .i64 m.d.ac), .val (.int .i64 m.d.va), .val (.int .i64 m.d.p2), .val (.int .u64 m.d.gm), .val (.int .i64 m.d.st), .val (.int .i64 0)]
abbrev aMG (m : MG) : AV := .agg (mgM m)
structure wfMG (m : MG) : Prop where
 port : 1 <= m.port /\ m.port <= 8
 seq : 0 <= m.seq /\ m.seq <= 65535
 p1 : 0 <= m.d.p1 /\ m.d.p1 <= 255
 cl : 0 <= m.d.cl /\ m.d.cl <= 255
 ac : 0 <= m.d.ac /\ m.d.ac <= 255
 va : 0 <= m.d.va /\ m.d.va <= 65535
 p2 : 0 <= m.d.p2 /\ m.d.p2 <= 255
 st : 0 <= m.d.st /\ m.d.st < 32
theorem b9y : Runs Tryd.prog 105 [.agg [.val (.int .i64 0), .val (.int .i64 0)]] [] (Det (.val (.int .i64 0)) []) := by
 refine Runs.mk a1a Tryd.call105 Tryd.func105 rfl Tryd.ntmps105 Tryd.results105 rfl ?_
 (repeat' (first
  | refine SP ?_
  | refine a05 (by decide) ?_
  | refine a0l ?_
  | (apply a04 []; (focus (iterate 2 (all_goals (repeat' (first | exact trivial | refine And.intro ?_ ?_ | exact a0a _ _ ))))); any_goals (apply a0h; rfl))
  ))
 all_goals first | rfl | fail
theorem b72 : Runs Tryd.prog 89 [.val (.int .i64 11)] [] (Det (.sb false) []) := by
 refine Runs.mk a1a Tryd.call89 Tryd.func89 rfl Tryd.ntmps89 Tryd.results89 rfl ?_
 (repeat' (first
  | refine SP ?_
  | refine a05 (by decide) ?_
  | (apply a04 []; (focus (iterate 2 (all_goals (repeat' (first | exact trivial | refine And.intro ?_ ?_ | exact a1j rfl ))))); any_goals (apply a0h; rfl))
  ))
 all_goals first | rfl | fail
theorem c5z : Runs Tryd.prog 87 [.val (.int .i64 11)] [] (Det (.val (.int .i64 64)) []) := by
 refine Runs.mk a1a Tryd.call87 Tryd.func87 rfl Tryd.ntmps87 Tryd.results87 rfl ?_
 (repeat' (first
  | refine SP ?_
  | refine a01 (by first | exact beq_self_eq_true _ | decide) ?_
  | (apply a04 []; (focus (iterate 2 (all_goals (repeat' (first | exact trivial | refine And.intro ?_ ?_ | exact a0a _ _ ))))); any_goals (apply a0h; rfl))
  ))
 all_goals first | rfl | fail
abbrev F3 := Int × Int × Int
def f3C (p : F3) : List AV := [.val (.int .i64 p.1), .val (.int .i64 p.2.1), .val (.int .i64 p.2.2)]
instance : FlatC f3C := ⟨fun x v h => by simp [f3C] at h; rcases h with rfl | rfl | rfl <;> trivial⟩
def c6t (m : MG) : List F3 := [(0, 0, 255), (0, 0, 65535), (m.port, 0, 65535), (m.seq, 0, 65535), (0, -128, 127), (0, 0, 65535), (0, -32768, 32767), (m.d.p1, 0, 255), (m.d.cl, 0, 255), (m.d.ac, 0, 255), (m.d.va, 0, 65535), (m.d.p2, 0, 255), (m.d.st, 0, 65535), (0, 0, 255)]
theorem c5e {m : MG} (h : wfMG m) : ∀ k, k < 14 -> ((c6t m).getD k (0, 0, 0)).2.1 <= ((c6t m).getD k (0, 0, 0)).1 /\ ((c6t m).getD k (0, 0, 0)).1 <= ((c6t m).getD k (0, 0, 0)).2.2 := by
 obtain ⟨h1, h2, h3, h4, h5, h6, h7, h8⟩ := h
 intro k hk
 have : k = 0 \/ k = 1 \/ k = 2 \/ k = 3 \/ k = 4 \/ k = 5 \/ k = 6 \/ k = 7 \/ k = 8 \/ k = 9 \/ k = 10 \/ k = 11 \/ k = 12 \/ k = 13 := by omega
 rcases this with rfl | rfl | rfl | rfl | rfl | rfl | rfl | rfl | rfl | rfl | rfl | rfl | rfl | rfl <;> simp [c6t] <;> omega
set_option maxHeartbeats 1000000 in
theorem b8i (m : MG) (h : wfMG m) : Runs Tryd.prog 88 [aMG m] [] (Det (.sb true) []) := by
 have hf := c5e h
 have hp := b9y
 clear h
 refine Runs.mk a1a Tryd.call88 Tryd.func88 rfl Tryd.ntmps88 Tryd.results88 rfl ?_
 (repeat' (first
  | refine SP ?_
  | refine a0l ?_
  ))
 refine b8s (σ := { k : Nat // k <= 14 }) (fun k => ⟨[(1, .ptr 0 21 0 0), (50, .sl 1 3 0 14 (some 14)), (51, .val (.int .i64 14)), (52, .val (.int .i64 k.1))], [.var (mgM m), .arr true 212 3 14 (a2x f3C (0, 0, 0) (c6t m))]⟩) (fun k => 14 - k.1) ⟨0, by omega⟩ ?_ ?_
 ·(apply a0t [some 0, some 2]; (focus (iterate 2 (all_goals (repeat' (first | exact a0c | exact trivial | refine SP ?_ | refine And.intro ?_ ?_ | refine a0b ?_ ?_ | refine a0n ?_ | exact a0d rfl rfl | exact a0i rfl rfl rfl | exact a0a _ _ | refine a0y ?_ ?_ | exact a2o | (apply a4e rfl; (focus (refine a0y ?_ ?_))) ))))); any_goals (apply a0h; rfl))
 rintro ⟨k, hk⟩
 have hfk := hf (0 + Int.toNat (k : Int))
 (repeat' (first
  | refine SP ?_
  | (apply a0g <;> intro hb <;> (try simp only [nS, nT, eq_self, reduceCtorEq] at hb) <;> (try (exfalso; omega)))
  | refine a0l ?_
  | refine OB ?_
  | ((first | apply a2d (hp) ); (focus (iterate 2 (all_goals (repeat' (first | exact a0c | refine a0b ?_ ?_ | refine a0o ?_ | exact a0a _ _ ))))))
  | (apply a04 []; (focus (iterate 2 (all_goals (repeat' (first | exact trivial | refine And.intro ?_ ?_ | exact a1j rfl ))))); any_goals (apply a0h; rfl))
  | (refine b9n (⟨k + 1, by omega⟩) (by first | (simp; omega) | omega) ?_; apply a0t [some 0, some 1]; (focus (iterate 2 (all_goals (repeat' (first | exact a0c | exact trivial | refine SP ?_ | refine And.intro ?_ ?_ | refine a0b ?_ ?_ | refine a0n ?_ | exact a0d rfl rfl | exact a0i rfl rfl rfl | exact a0a _ _ | exact a0f rfl rfl rfl | ((refine a0r ?_); first | with_reducible rfl | omega | ((try simp only [wS]); omega) | rfl) ))))); any_goals (apply a0h; rfl))
  ))
theorem b8u (m : MG) (h : wfMG m) : Runs Tryd.prog 78 [aMG m] [] (Det (.val (.int .i64 0)) []) := by
 have hr := b8i m h
 have ha := b72
 have hs := c5z
 refine Runs.mk a1a Tryd.call78 Tryd.func78 rfl Tryd.ntmps78 Tryd.results78 rfl ?_
 (repeat' (first
  | refine SP ?_
  | refine a01 (by first | exact beq_self_eq_true _ | decide) ?_
  | refine a05 (by decide) ?_
  | refine a0l ?_
  | ((first | apply a2d (hs) ); (focus (iterate 2 (all_goals (repeat' (first | exact a0c | refine a0b ?_ ?_ | exact a0a _ _ ))))))
  | ((first | apply a2d (hr) ); (focus (iterate 2 (all_goals (repeat' (first | exact a0c | refine a0b ?_ ?_ | refine a0o ?_ | exact a0a _ _ ))))))
  | ((first | apply a2d (ha) ); (focus (iterate 2 (all_goals (repeat' (first | exact a0c | refine a0b ?_ ?_ | exact a0a _ _ ))))))
  | (apply a04 []; (focus (iterate 2 (all_goals (repeat' (first | exact trivial | refine And.intro ?_ ?_ | exact a0a _ _ ))))); any_goals (apply a0h; rfl))
  ))
 all_goals first | rfl | fail
def mgD (m : MG) (recv rport : Int) : DS := { m.d with se := m.id, sp := m.port, re := recv, rp := rport }
theorem c8y (m : MG) (h : wfMG m) (recv rport : Int) : Runs Tryd.prog 62 [aMG m, .val (.int .u64 recv), .val (.int .i64 rport)] [] (Det (.tup [aD (mgD m recv rport), .val (.int .i64 0)]) []) := by
 have hc := b8u m h
 refine Runs.mk a1a Tryd.call62 Tryd.func62 rfl Tryd.ntmps62 Tryd.results62 rfl ?_
 (repeat' (first
  | refine SP ?_
  | refine a05 (by decide) ?_
  | refine a0l ?_
  | ((first | apply a2d (hc) ); (focus (iterate 2 (all_goals (repeat' (first | exact a0c | refine a0b ?_ ?_ | refine a0o ?_ | exact a0a _ _ ))))))
  | (apply a04 []; (focus (iterate 2 (all_goals (repeat' (first | exact a0c | exact trivial | refine And.intro ?_ ?_ | refine a0b ?_ ?_ | refine a0o ?_ | refine a3m ?_ | exact a0a _ _ ))))); any_goals (apply a0h; rfl))
  ))
 all_goals first | rfl | fail
end Go.Vx.L42.B
set_option maxRecDepth 100000
namespace Go.Vx.L42.B
open Go Go.Proofs Go.Vx.L42
theorem b6j (s : Int) (h : s = 1 \/ s = 4 \/ s = 5 \/ s = 6 \/ s = 7 \/ s = 8) : Runs Tryd.prog 54 [.val (.int .i64 s)] [] (Det (.sb true) []) := by
  rcases h with rfl | rfl | rfl | rfl | rfl | rfl
  all_goals
    refine Runs.mk a1a Tryd.call54 Tryd.func54 rfl Tryd.ntmps54 Tryd.results54 rfl ?_
    (repeat' (first
    | refine SP ?_
    | refine a01 (by first | exact beq_self_eq_true _ | decide) ?_
    | (apply a04 []; (focus (iterate 2 (all_goals (repeat' (first | exact trivial | refine And.intro ?_ ?_ | exact a1j rfl ))))); any_goals (apply a0h; rfl))
    ))
  all_goals first | rfl | fail
def nxL : List (Int × Int × Int) := [(1, 1, 1), (1, 2, 4), (4, 7, 6), (5, 8, 6), (4, 22, 5), (4, 23, 5), (4, 25, 7), (4, 26, 8), (6, 22, 6), (6, 23, 6), (6, 25, 7), (6, 26, 8), (7, 22, 5), (7, 23, 5), (7, 25, 7), (7, 26, 8), (8, 22, 5), (8, 23, 5), (8, 25, 7), (8, 26, 8)]
theorem a90 (s e r : Int) (b : Bool) (h : (s, e, r) ∈ nxL) : Runs Tryd.prog 55 [.val (.int .i64 s), .val (.int .i64 e), .sb b] [] (Det (.val (.int .i64 r)) []) := by
  have hk := b6j s
  simp only [nxL, List.mem_cons, Prod.mk.injEq, List.not_mem_nil, or_false] at h
  rcases h with ⟨rfl, rfl, rfl⟩ | ⟨rfl, rfl, rfl⟩ | ⟨rfl, rfl, rfl⟩ | ⟨rfl, rfl, rfl⟩ | ⟨rfl, rfl, rfl⟩ | ⟨rfl, rfl, rfl⟩ | ⟨rfl, rfl, rfl⟩ | ⟨rfl, rfl, rfl⟩ | ⟨rfl, rfl, rfl⟩ | ⟨rfl, rfl, rfl⟩ | ⟨rfl, rfl, rfl⟩ | ⟨rfl, rfl, rfl⟩ | ⟨rfl, rfl, rfl⟩ | ⟨rfl, rfl, rfl⟩ | ⟨rfl, rfl, rfl⟩ | ⟨rfl, rfl, rfl⟩ | ⟨rfl, rfl, rfl⟩ | ⟨rfl, rfl, rfl⟩ | ⟨rfl, rfl, rfl⟩ | ⟨rfl, rfl, rfl⟩
  all_goals
    replace hk := hk (by decide)
    refine Runs.mk a1a Tryd.call55 Tryd.func55 rfl Tryd.ntmps55 Tryd.results55 rfl ?_
    (repeat' (first
    | refine SP ?_
    | refine a01 (by first | exact beq_self_eq_true _ | decide) ?_
    | refine a05 (by decide) ?_
    | (apply a0g <;> intro hb <;> (try simp only [nS, nT, eq_self, reduceCtorEq] at hb) <;> (try (exfalso; omega)))
    | refine a0l ?_
    | refine OB ?_
    | ((first | apply a2d (hk) ); (focus (iterate 2 (all_goals (repeat' (first | exact a0c | refine a0b ?_ ?_ | exact a0a _ _ ))))))
    | (apply a04 []; (focus (iterate 2 (all_goals (repeat' (first | exact trivial | refine And.intro ?_ ?_ | exact a0a _ _ ))))); any_goals (apply a0h; rfl))
    ))
  all_goals first | rfl | decide | fail
def evC (e : Int) : List AV := [.val (.int .i64 e), .val (.bool false)]
instance : FlatC evC := ⟨fun x v h => by simp [evC] at h; rcases h with rfl | rfl <;> trivial⟩
theorem c6e : Runs Tryd.prog 30 [.val (.int .i64 1), .sl 0 2 0 2 (some 2)] [.arr false 85 2 2 (a2x evC 0 [1, 2])] (Det (.val (.int .i64 4)) [.arr false 85 2 2 (a2x evC 0 [1, 2])]) := by
  have hk := b6j 1 (by decide)
  have h1 := a90 1 1 1 false (by decide)
  have h2 := a90 1 2 4 false (by decide)
  refine Runs.mk a1a Tryd.call30 Tryd.func30 rfl Tryd.ntmps30 Tryd.results30 rfl ?_
  (repeat' (first
    | refine SP ?_
    | refine a01 (by first | exact beq_self_eq_true _ | decide) ?_
    | refine a05 (by decide) ?_
    | refine a0l ?_
    | refine OB ?_
    | ((first | apply a2d (hk) ); (focus (iterate 2 (all_goals (repeat' (first | exact a0c | refine a0b ?_ ?_ | exact a0a _ _ ))))))
    | refine a2m 3 ?_
    | ((first | apply a2d (h1) ); (focus ((iterate 2 (all_goals (repeat' (first | exact a0c | refine a0b ?_ ?_ | exact a0a _ _ | exact a1b rfl | refine a0r ?_ )))); done)))
    | ((first | apply a2d (h2) ); (focus ((iterate 2 (all_goals (repeat' (first | exact a0c | refine a0b ?_ ?_ | exact a0a _ _ | exact a1b rfl )))); done)))
    | (apply a04 [some 0]; (focus (iterate 2 (all_goals (repeat' (first | exact trivial | refine SP ?_ | refine And.intro ?_ ?_ | exact a0a _ _ | exact a0f rfl rfl rfl ))))); any_goals (apply a0h; rfl))
    ))
theorem c19 (s : Int) : Runs Tryd.prog 60 [.val (.int .i64 s)] [] (Det (.sb (decide (s = 6))) []) := by
  refine Runs.mk a1a Tryd.call60 Tryd.func60 rfl Tryd.ntmps60 Tryd.results60 rfl ?_
  (repeat' (first
    | refine SP ?_
    | (apply a04 []; (focus (iterate 2 (all_goals (repeat' (first | exact trivial | refine And.intro ?_ ?_ | exact a1j rfl ))))); any_goals (apply a0h; rfl))
    ))
  all_goals first | rfl | fail
theorem c2h (s : Int) (h : 0 <= s /\ s <= 65535) : Runs Tryd.prog 61 [.val (.int .i64 s)] [] (Det (.val (.int .i64 ((s + 1) % 65536))) []) := by
  refine Runs.mk a1a Tryd.call61 Tryd.func61 rfl Tryd.ntmps61 Tryd.results61 rfl ?_
  (repeat' (first
    | refine SP ?_
    | refine OB ?_
    | (apply a04 []; (focus (iterate 2 (all_goals (repeat' (first | exact trivial | refine And.intro ?_ ?_ | refine a0r ?_ ))))); any_goals (apply a0h; rfl))
    ))
  all_goals
    rw [IntKind.wrap_i64, show (s + 1 + 9223372036854775808) % 18446744073709551616 - 9223372036854775808 = s + 1 by omega]
    exact Int.tmod_eq_emod_of_nonneg (by omega)
def stC (code : Int) : Int := if code = 2 \/ code = 3 then 6 else if code = 5 then 7 else 8
set_option maxHeartbeats 8000000 in
theorem b8c (o : OP) (s a m at' code : Int) (has same : Bool) (hm : 0 <= m /\ m <= 1000000000 /\ 0 <= at' /\ at' <= 1000000000) (hs : s = 6 \/ s = 7 \/ s = 8 \/ (s = 4 /\ m < at')) (hc : code = 2 \/ code = 3 \/ code = 5 \/ code = 6) (hh : has = true \/ code = 2 \/ code = 3) :
    Runs Tryd.prog 59 [.ptr 0 6 0 0, .val (.int .i64 code), .sb has, .sb same, .val (.int .i64 at'), .val (.int .i64 1)] [stB s a m 1, .obj o] (Det (.tup []) [stB (stC code) a (if stC code = s then m else at') 1, .obj o]) := by
  have n0 := a90 4 7 6 same (by decide)
  have n5 := a90 5 8 6 same (by decide)
  have nm : ∀ s code : Int, (s = 4 \/ s = 6 \/ s = 7 \/ s = 8) -> (code = 2 \/ code = 3 \/ code = 5 \/ code = 6) -> (s, 20 + code, (if code = 2 \/ code = 3 then (if s = 6 then 6 else 5) else if code = 5 then 7 else 8 : Int)) ∈ nxL := by
    intro s code h1 h2
    rcases h1 with rfl | rfl | rfl | rfl <;> rcases h2 with rfl | rfl | rfl | rfl <;> decide
  have hs' : s = 4 \/ s = 6 \/ s = 7 \/ s = 8 := by omega
  have n1 := a90 s (20 + code) _ same (nm s code hs' hc)
  clear nm
  have hs4 : s = 4 -> m < at' := by omega
  clear hs
  rcases hs' with rfl | rfl | rfl | rfl <;> rcases hc with rfl | rfl | rfl | rfl
  all_goals
    simp only [stC] at n1 ⊢
    cases has
    all_goals
      first
      | (exfalso; revert hh; decide)
      | (refine Runs.mk a1a Tryd.call59 Tryd.func59 rfl Tryd.ntmps59 Tryd.results59 rfl ?_
         (repeat' (first
    | refine SP ?_
    | refine a01 (by first | exact beq_self_eq_true _ | decide) ?_
    | refine a05 (by decide) ?_
    | (apply a0g <;> intro hb <;> (try simp only [nS, nT, eq_self, reduceCtorEq] at hb) <;> (try (exfalso; omega)))
    | refine a0l ?_
    | ((first | apply a2d (n1) ); (focus ((iterate 2 (all_goals (repeat' (first | exact a0c | refine a0b ?_ ?_ | exact a0a _ _ | exact a1j rfl | refine a0r ?_ )))); done)))
    | ((first | apply a2d (n0) ); (focus ((iterate 2 (all_goals (repeat' (first | exact a0c | refine a0b ?_ ?_ | exact a0a _ _ | exact a1j rfl | refine a0r ?_ )))); done)))
    | ((first | apply a2d (n5) ); (focus ((iterate 2 (all_goals (repeat' (first | exact a0c | refine a0b ?_ ?_ | exact a0a _ _ | exact a1j rfl )))); done)))
    | (apply a04 [some 0, some 1]; (focus (iterate 2 (all_goals (repeat' (first | exact a0q | exact a0e rfl | exact a0c | exact trivial | refine SP ?_ | refine And.intro ?_ ?_ | refine a0b ?_ ?_ | refine a3m ?_ | refine a0n ?_ | exact a0d rfl rfl | exact a0a _ _ | refine a0r ?_ ))))); any_goals (apply a0h; rfl))
    )))
  all_goals (exfalso; have := hs4 rfl; rw [IntKind.wrap_i64] at hb; omega)
end Go.Vx.L42.B
set_option maxRecDepth 100000
namespace Go.Vx.L42.B
open Go Go.Proofs Go.Vx.L42
def rcP (x : Int) (ts : List Int) : Nat -> Int
 | 0 => 0
 | k + 1 => if x < ts.getD k 0 then rcP x ts k + 1 else rcP x ts k
theorem b9b (x : Int) (ts : List Int) : ∀ k, 0 <= rcP x ts k /\ rcP x ts k <= k
 | 0 => by simp [rcP]
 | k + 1 => by
  have := b9b x ts k
  simp only [rcP]
  split <;> omega
theorem a48 {ρ : Nat -> Option Nat} {b x e t : Nat} {cf : Nat -> Nat -> AV} (h : ρ b = some x) (hc : cf 0 0 = .ptr x e 0 0) : a3n ρ (.arr true t 1 1 fun _ _ => .ptr b e 0 0) (.arr true t 1 1 cf) := by
 refine a1w (a39 rfl) rfl fun i hi j hj => ?_
 obtain rfl : i = 0 := by omega
 obtain rfl : j = 0 := by omega
 rw [hc]
 exact a0d h rfl
def lmI (last at' : Int) : Int := (if last > at' then last else at') - 4000
def rcN (last at' : Int) (ts : List Int) : Int := rcP (lmI last at') ts ts.length
abbrev rdL (last : Int) (ts : List Int) : List Blk := [rdV 139 4 [.val (.int .i64 4000), .val (.int .i64 1), .val (.int .i64 last), .dead], rdV 184 14 [.dead, .dead, .dead, .dead, .dead, .dead, .dead, .dead, .dead, .dead, .dead, .dead, .dead, .sl 2 1 0 ts.length none], .arr false 3 1 ts.length (a2x a78 0 ts)]
theorem b27 (last at' : Int) (ts : List Int) (hr : 0 <= last /\ last <= 1000000000 /\ 0 <= at' /\ at' <= 1000000000) (hn : ts.length <= 8) :
  Runs Tryd.prog 75 [.ptr 0 4 0 0, .ptr 1 14 0 0, .val (.int .i64 at')] (rdL last ts) (Det (.val (.int .i64 (rcN last at' ts))) (rdL last ts)) := by
 have hw : IntKind.i64.wrap ((if last > at' then last else at') - 4000) = lmI last at' := by
  unfold lmI
  rw [IntKind.wrap_i64]
  split <;> omega
 unfold rcN
 generalize lmI last at' = X at *
 refine Runs.mk a1a Tryd.call75 Tryd.func75 rfl Tryd.ntmps75 Tryd.results75 rfl ?_
 (repeat' (first
  | refine SP ?_
  | refine a0l ?_
  | refine OB ?_
  ))
 refine a00 (σ := Nat) (fun x => x <= ts.length) (fun x => ⟨[(0, .ptr 0 4 0 0), (2, .val (.int .i64 at')), (7, .val (.int .i64 (rcP X ts x))), (13, .sl 2 1 0 ts.length none), (14, .val (.int .i64 ts.length)), (15, .val (.int .i64 x))], [rdV 139 4 [.val (.int .i64 4000), .val (.int .i64 1), .val (.int .i64 last), .dead], rdV 184 14 [.dead, .dead, .dead, .dead, .dead, .dead, .dead, .dead, .dead, .dead, .dead, .dead, .dead, .sl 2 1 0 ts.length none], .arr false 3 1 ts.length (a2x a78 0 ts)]⟩) (fun x => ts.length - x) (0) ?_ ?_ ?_
 ·omega
 ·(apply a0t [some 0, some 1, some 2]; (focus (iterate 2 (all_goals (repeat' (first | exact a0q | exact a0c | exact trivial | refine SP ?_ | refine And.intro ?_ ?_ | refine a0b ?_ ?_ | refine b7p ?_ | exact a0d rfl rfl | exact a0i rfl rfl rfl | exact a0a _ _ | exact a0f rfl rfl rfl ))))); any_goals (apply a0h; rfl))
 rintro x hx
 have hrx := b9b X ts x
 by_cases hxl : x < ts.length
 ·have hz : 0 + Int.toNat (x : Int) = x := by omega
  have hs : rcP X ts (x + 1) = if X < ts.getD (0 + Int.toNat (x : Int)) 0 then rcP X ts x + 1 else rcP X ts x := by rw [hz]; rfl
  generalize hc' : rcP X ts (x + 1) = c' at *
  generalize rcP X ts x = c at *
  by_cases hg : X < ts.getD (0 + Int.toNat (x : Int)) 0
  ·rw [if_pos hg] at hs
   (repeat' (first
  | refine SP ?_
  | (apply a0g <;> intro hb <;> (try simp only [nS, nT, eq_self, reduceCtorEq] at hb) <;> (try (exfalso; omega)))
  | refine a0u (by decide +kernel) ?_
  | refine a0l ?_
  | refine OB ?_
  | (apply a0m (Subtype.mk (x + 1) (by first | omega | (simp only; omega))); (focus (rw [hc', hs]; apply a0t [some 0, some 1, some 2]; (focus (iterate 2 (all_goals (repeat' (first | exact a0q | exact a0c | exact trivial | refine SP ?_ | refine And.intro ?_ ?_ | refine a0b ?_ ?_ | refine b7p ?_ | exact a0d rfl rfl | exact a0i rfl rfl rfl | exact a0a _ _ | exact a0f rfl rfl rfl | ((refine a0r ?_); first | with_reducible rfl | omega | ((try simp only [wS]); omega) | rfl) ))))); any_goals (apply a0h; rfl))); (all_goals (try (first | (simp only; omega)))))
  ))
  ·rw [if_neg hg] at hs
   (repeat' (first
  | refine SP ?_
  | (apply a0g <;> intro hb <;> (try simp only [nS, nT, eq_self, reduceCtorEq] at hb) <;> (try (exfalso; omega)))
  | refine a0u (by decide +kernel) ?_
  | refine a0l ?_
  | refine OB ?_
  | (apply a0m (Subtype.mk (x + 1) (by first | omega | (simp only; omega))); (focus (rw [hc', hs]; apply a0t [some 0, some 1, some 2]; (focus (iterate 2 (all_goals (repeat' (first | exact a0q | exact a0c | exact trivial | refine SP ?_ | refine And.intro ?_ ?_ | refine a0b ?_ ?_ | refine b7p ?_ | exact a0d rfl rfl | exact a0i rfl rfl rfl | exact a0a _ _ | exact a0f rfl rfl rfl | ((refine a0r ?_); first | with_reducible rfl | omega | ((try simp only [wS]); omega) | rfl) ))))); any_goals (apply a0h; rfl))); (all_goals (try (first | (simp only; omega)))))
  ))
 ·obtain rfl : x = ts.length := by omega
  (repeat' (first
  | refine SP ?_
  | (apply a0g <;> intro hb <;> (try simp only [nS, nT, eq_self, reduceCtorEq] at hb) <;> (try (exfalso; omega)))
  | (apply a04 [some 0, some 1, some 2]; (focus (iterate 2 (all_goals (repeat' (first | exact a0q | exact a0c | exact trivial | refine SP ?_ | refine And.intro ?_ ?_ | refine a0b ?_ ?_ | refine b7p ?_ | exact a0i rfl rfl rfl | exact a0a _ _ | exact a0f rfl rfl rfl ))))); any_goals (apply a0h; rfl))
  ))
end Go.Vx.L42.B

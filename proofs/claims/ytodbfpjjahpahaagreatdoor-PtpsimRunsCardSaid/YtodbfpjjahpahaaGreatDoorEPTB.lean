/- Lemmas of a small executor for the model, and contracts of functions, used for the law that this claim proves. No condition. -/
import Derived.Test.YtodbfpjjahpahaaGreatDoorEW3
import Derived.Test.YtodbfpjjahpahaaGreatDoorEPTA
import Derived.Test.YtodbfpjjahpahaaGreatDoorEP14
import Derived.Test.YtodbfpjjahpahaaGreatDoorEPB
set_option linter.unusedSimpArgs false
set_option linter.unusedVariables false
set_option maxRecDepth 100000
namespace Go.Vx.L58.PT
open Go Go.Proofs Go.Vx.L58 Go.Vx.L58.MD
structure Ex7 where
 sy : Bool
 t1 : Int
 t2 : Int
 c1 : Int
 pe : Bool
 sq : Int
 t3 : Int
 kn : Bool
 de : Int
abbrev exL (x : Ex7) : List AV := [z64, .sb false, .val (.int .u64 0), z64, z64, z64, z64, .sb x.sy, .val (.int .i64 x.t1), .val (.int .i64 x.t2), .val (.int .i64 x.c1), .sb x.pe, .val (.int .i64 x.sq), .val (.int .i64 x.t3), .sb x.kn, .val (.int .i64 x.de)]
def x0 : Ex7 := ⟨false, 0, 0, 0, false, 0, 0, false, 0⟩
theorem d1r : Runs Tryz.prog 46 [z64] [] (Det (.ptr 0 16 0 0) [.var (exL x0)]) := by
 refine Runs.mk a0k Tryz.call46 Tryz.func46 rfl Tryz.ntmps46 Tryz.results46 rfl ?_
 (repeat' (first
  | refine SP ?_
  | refine a1d (by decide) ?_
  | refine a0c ?_
  | exact RT [some 0]
  ))
theorem b4y (x : Ex7) (m : Mg) (h : MgOK m) : Runs Tryz.prog 90 [.ptr 0 16 0 0, mgA m, .val (.int .i64 m.k)] [.var (exL x)] (Det z64 [.var (exL x)]) := by
 have c := a68 m h
 refine Runs.mk a0k Tryz.call90 Tryz.func90 rfl Tryz.ntmps90 Tryz.results90 rfl ?_
 (repeat' (first
  | refine SP ?_
  | refine a1d (by decide) ?_
  | (apply a0a <;> intro hb <;> (try simp only [nS, nT, eq_self, reduceCtorEq] at hb))
  | refine a0q (by decide +kernel) ?_
  | refine a0c ?_
  | ((first | apply a0t (c) ); exact AS)
  | exact RT [some 0]
  ))
theorem c67 (t : Int) (h0 : -4503599627370496 <= t) (h1 : t <= 4503599627370496) :
  Runs Tryz.prog 91 [.ptr 0 1 0 0, .ptr 1 1 0 0, .ptr 2 1 0 0] [.var [.val (.int .i64 t)], .var [.sb false], .var [.sb true]] (Det z64 [.var [.val (.int .i64 t)], .var [.sb false], .var [.sb true]]) := by
 have r := b08 t h0 h1
 refine Runs.mk a0k Tryz.call91 Tryz.func91 rfl Tryz.ntmps91 Tryz.results91 rfl ?_
 (repeat' (first
  | refine SP ?_
  | refine a18 (by first | exact beq_self_eq_true _ | decide) ?_
  | refine a1d (by decide) ?_
  | refine a0c ?_
  | ((first | apply a0t (r) ); exact AS)
  | exact RT [some 0, some 1, some 2]
  ))
theorem c0b (x : Ex7) (m : Mg) (h : MgOK m) (t : Int) (h0 : -4503599627370496 <= t) (h1 : t <= 4503599627370496) :
  Runs Tryz.prog 89 [.bfn (.func 90) [.ptr 0 16 0 0] [], mgA m, .val (.int .i64 m.k), .fn (.func 91) [.ptr 1 1 0 0, .ptr 2 1 0 0, .ptr 3 1 0 0]] [.var (exL x), .var [.val (.int .i64 t)], .var [.sb false], .var [.sb true]]
   (Det z64 [.var (exL x), .var [.val (.int .i64 t)], .var [.sb false], .var [.sb true]]) := by
 have c := b4y x m h
 have s := c67 t h0 h1
 refine Runs.mk a0k Tryz.call89 Tryz.func89 rfl Tryz.ntmps89 Tryz.results89 rfl ?_
 (repeat' (first
  | refine SP ?_
  | refine a1d (by decide) ?_
  | refine a0c ?_
  | ((first | apply a1z (c) ); exact AS; (try (any_goals fail)))
  | ((first | apply call3 (s) ); exact AS; (try any_goals (apply a1j; rfl)))
  | exact RT [some 0, some 1, some 2, some 3]
  ))
theorem b7j (x : Ex7) (a b c : Int) (h0 : 0 <= c) (h1 : c <= 9223372036854775807) :
  Runs Tryz.prog 93 [.ptr 0 16 0 0, .val (.int .i64 a), .val (.int .i64 b), .val (.int .i64 c)] [.var (exL x)] (Det (.tup []) [.var (exL { x with sy := true, t1 := a, t2 := b, c1 := c / 65536 })]) := by
 have n := b8t c h0 h1
 refine Runs.mk a0k Tryz.call93 Tryz.func93 rfl Tryz.ntmps93 Tryz.results93 rfl ?_
 (repeat' (first
  | refine SP ?_
  | ((first | apply a0t (n) ); exact AS)
  | exact RT [some 0]
  ))
set_option maxHeartbeats 1000000 in
theorem c9t (x : Ex7) (m : Mg) (h : MgOK m) (hk : m.k = 0) (hc : 0 <= m.corr /\ m.corr <= 9223372036854775807) (a : Int) (ha : -4503599627370496 <= a /\ a <= 4503599627370496) (hs : m.sec = a4k (3900000000000000000 + a)) (hn : m.nano = a4o (3900000000000000000 + a))
  (t : Int) (h0 : -4503599627370496 <= t) (h1 : t <= 4503599627370496) :
  Runs Tryz.prog 47 [.ptr 0 16 0 0, mgA m, .val (.int .i64 t)] [.var (exL x)] (Det z64 [.var (exL { x with sy := true, t1 := a, t2 := t, c1 := m.corr / 65536 })]) := by
 have r := c0b x m h t h0 h1
 have c := b7j x a t m.corr hc.1 hc.2
 have i := b1t a ha.1 ha.2
 rw [<- hs, <- hn] at i
 rw [hk] at r
 have hkk : mgA m = .agg [.val (.int .i64 0), z64, z64, .val (.int .i64 m.corr), .val (.int .u64 m.clock), .val (.int .i64 1), .val (.int .i64 m.seq), z64, .val (.int .i64 m.sec), .val (.int .i64 m.nano), .val (.int .u64 m.rc), .val (.int .i64 m.rp), z64, z64, z64, z64, z64, z64, .val (.int .u64 0), z64, z64] := by rw [mgA, mgL, hk]
 rw [hkk] at r ⊢
 refine Runs.mk a0k Tryz.call47 Tryz.func47 rfl Tryz.ntmps47 Tryz.results47 rfl ?_
 (repeat' (first
  | refine SP ?_
  | refine a1d (by decide) ?_
  | refine a0c ?_
  | ((first | apply a0t (i) ); exact AS)
  | refine CT [some 0, some 2, some 4, some 3] r ?_
  | ((first | apply a1z (c) ); exact AS; (try (any_goals fail)))
  | exact RT [some 0]
  ))
theorem b9b (x : Ex7) (s t : Int) (h0 : 0 <= s /\ s <= 65535) (h1 : -4503599627370496 <= t /\ t <= 4503599627370496) :
  Runs Tryz.prog 48 [.ptr 0 16 0 0, .val (.int .i64 s), .val (.int .i64 t)] [.var (exL x)] (Det z64 [.var (exL { x with pe := true, sq := s, t3 := t })]) := by
 have r := b08 t h1.1 h1.2
 refine Runs.mk a0k Tryz.call48 Tryz.func48 rfl Tryz.ntmps48 Tryz.results48 rfl ?_
 (repeat' (first
  | refine SP ?_
  | refine a1d (by decide) ?_
  | (apply a0a <;> intro hb <;> (try simp only [nS, nT, eq_self, reduceCtorEq] at hb))
  | refine a0c ?_
  | ((first | apply a0t (r) ); exact AS)
  | (apply a0v [some 0]; (focus (iterate 2 (all_goals (repeat' (first | exact a0g | exact trivial | refine SP ?_ | refine And.intro ?_ ?_ | refine a0d ?_ ?_ | refine a09 ?_ | exact a0b _ _ | exact a1m rfl | exact a0w rfl | ((refine a0f ?_); first | with_reducible rfl | omega | ((try simp only [wS]); omega) | rfl) | refine a1m ?_ ))))); any_goals (apply a0e; rfl))
  | omega))
end Go.Vx.L58.PT
set_option maxRecDepth 100000
namespace Go.Vx.L58.PT
open Go Go.Proofs Go.Vx.L58 Go.Vx.L58.MD
abbrev bd (t : Int) : Prop := -4503599627370496 <= t /\ t <= 4503599627370496
theorem c0u (a b c : Int) (h1 : bd a) (h2 : bd b) (h3 : 0 <= c /\ c <= 4503599627370496) :
  Runs Tryz.prog 96 [.agg [.val (.int .i64 a), .val (.int .i64 b), .val (.int .i64 c)]] [] (Det (.val (.int .i64 (b - a - c))) []) := by
 obtain ⟨a1, a2⟩ := h1
 obtain ⟨b1, b2⟩ := h2
 refine Runs.mk a0k Tryz.call96 Tryz.func96 rfl Tryz.ntmps96 Tryz.results96 rfl ?_
 (repeat' (first
  | refine SP ?_
  | exact RT []
  ))
theorem c6w (x : Ex7) (m : Mg) (hx : x.pe = true) (hs : x.sq = m.seq) :
  Runs Tryz.prog 94 [.ptr 0 1 0 0, .ptr 1 21 0 0, .ptr 2 1 0 0, .ptr 3 1 0 0, .ptr 4 1 0 0] [.var [.ptr 5 16 0 0], .var (mgL m), .var [.val (.int .u64 m.rc)], .var [.val (.int .i64 m.rp)], .var [.sb true], .var (exL x)]
   (Det z64 [.var [.ptr 5 16 0 0], .var (mgL m), .var [.val (.int .u64 m.rc)], .var [.val (.int .i64 m.rp)], .var [.sb true], .var (exL x)]) := by
 obtain ⟨sy, t1, t2, c1, pe, sq, t3, kn, de⟩ := x
 obtain ⟨k, corr, clock, seq, sec, nano, rc, rp⟩ := m
 simp only at hx hs
 subst hx; subst hs
 refine Runs.mk a0k Tryz.call94 Tryz.func94 rfl Tryz.ntmps94 Tryz.results94 rfl ?_
 (repeat' (first
  | refine SP ?_
  | refine a1d (by decide) ?_
  | (with_reducible refine a01 ?_)
  | (apply a0a <;> intro hb <;> (try simp only [nS, nT, eq_self, reduceCtorEq] at hb))
  | refine a0q (by decide +kernel) ?_
  | refine a0c ?_
  | exact RT [some 0, some 1, some 2, some 3, some 4, some 5]
  ))
theorem b9s (x : Ex7) (m : Mg) (h : MgOK m) (hx : x.pe = true) (hs : x.sq = m.seq) :
  Runs Tryz.prog 89 [.bfn (.func 90) [.ptr 0 16 0 0] [], mgA m, .val (.int .i64 m.k), .fn (.func 94) [.ptr 1 1 0 0, .ptr 2 21 0 0, .ptr 3 1 0 0, .ptr 4 1 0 0, .ptr 5 1 0 0]]
   [.var (exL x), .var [.ptr 0 16 0 0], .var (mgL m), .var [.val (.int .u64 m.rc)], .var [.val (.int .i64 m.rp)], .var [.sb true]]
   (Det z64 [.var (exL x), .var [.ptr 0 16 0 0], .var (mgL m), .var [.val (.int .u64 m.rc)], .var [.val (.int .i64 m.rp)], .var [.sb true]]) := by
 have c := b4y x m h
 have s := c6w x m hx hs
 refine Runs.mk a0k Tryz.call89 Tryz.func89 rfl Tryz.ntmps89 Tryz.results89 rfl ?_
 (repeat' (first
  | refine SP ?_
  | refine a1d (by decide) ?_
  | refine a0c ?_
  | ((first | apply a1z (c) ); exact AS; (try (any_goals fail)))
  | refine CT [some 1, some 2, some 3, some 4, some 5, some 0] s ?_
  | exact RT [some 0, some 1, some 2, some 3, some 4, some 5]
  ))
abbrev c0e (x : Ex7) : Int := x.t2 - x.t1 - x.c1
abbrev deF (x : Ex7) (t4 c : Int) : Int := if (c0e x + (t4 - x.t3 - c)) / 2 > 0 then (c0e x + (t4 - x.t3 - c)) / 2 else 0
set_option maxHeartbeats 1000000 in
theorem b63 (x : Ex7) (m : Mg) (h : MgOK m) (hk : m.k = 9) (hx : x.pe = true) (hs : x.sq = m.seq) (hsy : x.sy = true) (hc : 0 <= m.corr /\ m.corr <= 288230376151711744)
  (b1 : bd x.t1) (b2 : bd x.t2) (b3 : bd x.t3) (b4 : 0 <= x.c1 /\ x.c1 <= 4503599627370496)
  (a : Int) (ha : bd a) (hsec : m.sec = a4k (3900000000000000000 + a)) (hn : m.nano = a4o (3900000000000000000 + a)) :
  Runs Tryz.prog 49 [.ptr 0 16 0 0, mgA m, .val (.int .u64 m.rc), .val (.int .i64 m.rp)] [.var (exL x)] (Det z64 [.var (exL { x with pe := false, kn := true, de := deF x a (m.corr / 65536) })]) := by
 have r := b9s x m h hx hs
 have i := b1t a ha.1 ha.2
 have n := b8t m.corr hc.1 (by omega)
 have ld := c0u x.t1 x.t2 x.c1 b1 b2 b4
 rw [<- hsec, <- hn] at i
 rw [hk] at r
 have hkk : mgA m = .agg [.val (.int .i64 9), z64, z64, .val (.int .i64 m.corr), .val (.int .u64 m.clock), .val (.int .i64 1), .val (.int .i64 m.seq), z64, .val (.int .i64 m.sec), .val (.int .i64 m.nano), .val (.int .u64 m.rc), .val (.int .i64 m.rp), z64, z64, z64, z64, z64, z64, .val (.int .u64 0), z64, z64] := by rw [mgA, mgL, hk]
 have hkl : mgL m = [.val (.int .i64 9), z64, z64, .val (.int .i64 m.corr), .val (.int .u64 m.clock), .val (.int .i64 1), .val (.int .i64 m.seq), z64, .val (.int .i64 m.sec), .val (.int .i64 m.nano), .val (.int .u64 m.rc), .val (.int .i64 m.rp), z64, z64, z64, z64, z64, z64, .val (.int .u64 0), z64, z64] := by rw [mgL, hk]
 rw [hkk] at r ⊢
 rw [hkl] at r
 obtain ⟨sy, t1, t2, c1, pe, sq, t3, kn, de⟩ := x
 simp only at hx hs hsy b1 b2 b3 b4
 subst hx; subst hsy
 have w2 : (2:Int) ^ (min (Int.toNat 1) IntKind.i64.bits) = 2 := by decide +kernel
 refine Runs.mk a0k Tryz.call49 Tryz.func49 rfl Tryz.ntmps49 Tryz.results49 rfl ?_
 (repeat' (first
  | refine SP ?_
  | refine a1d (by decide) ?_
  | (with_reducible refine a01 ?_)
  | refine a0q (by decide +kernel) ?_
  | refine a0c ?_
  | refine OB ?_
  | ((first | apply a0t (i) ); exact AS)
  | refine CT [some 0, some 1, some 2, some 3, some 4, some 5] r ?_
  | ((first | apply a1l (n)); exact AS)
  | ((first | apply a1l (ld)); exact AS)
  | (apply a0v [some 0]; (focus (iterate 2 (all_goals (repeat' (first | exact a0g | exact trivial | refine SP ?_ | refine And.intro ?_ ?_ | refine a0d ?_ ?_ | refine a09 ?_ | exact a0b _ _ | exact a1m rfl | exact a0w rfl | refine a0f ?_ ))))); any_goals (apply a0e; rfl))
  ))
 all_goals
  have hfd : ∀ y : Int, y.fdiv 2 = y / 2 := fun y => Int.fdiv_eq_ediv_of_nonneg _ (by decide)
  simp only [deF, c0e]
  simp only [w2, hfd]
  simp only [IntKind.wrap_i64]
  split <;> split <;> omega
theorem c4v (x : Ex7) (hk : x.kn = true) (b1 : bd x.t1) (b2 : bd x.t2) (b4 : 0 <= x.c1 /\ x.c1 <= 4503599627370496) (b5 : 0 <= x.de /\ x.de <= 4503599627370496) :
  Runs Tryz.prog 50 [.ptr 0 16 0 0] [.var (exL x)] (Det (.tup [.val (.int .i64 (c0e x - x.de)), .sb true]) [.var (exL x)]) := by
 have ld := c0u x.t1 x.t2 x.c1 b1 b2 b4
 obtain ⟨sy, t1, t2, c1, pe, sq, t3, kn, de⟩ := x
 simp only at hk b1 b2 b4 b5
 subst hk
 refine Runs.mk a0k Tryz.call50 Tryz.func50 rfl Tryz.ntmps50 Tryz.results50 rfl ?_
 (repeat' (first
  | refine SP ?_
  | refine a1d (by decide) ?_
  | (apply a0a <;> intro hb <;> (try simp only [nS, nT, eq_self, reduceCtorEq] at hb))
  | refine a0q (by decide +kernel) ?_
  | refine a0c ?_
  | ((first | apply a1l (ld)); exact AS)
  | (apply a0v [some 0]; (focus (iterate 2 (all_goals (repeat' (first | exact a0g | exact trivial | refine SP ?_ | refine And.intro ?_ ?_ | refine a0d ?_ ?_ | refine a1c ?_ | refine a09 ?_ | exact a0b _ _ | exact a1m rfl | exact a0w rfl | refine a0f ?_ ))))); any_goals (apply a0e; rfl))
  ))
 all_goals (simp only [c0e]; simp only [IntKind.wrap_i64]; omega)
theorem c50 (x : Ex7) (hk : x.kn = true) : Runs Tryz.prog 51 [.ptr 0 16 0 0] [.var (exL x)] (Det (.tup [.val (.int .i64 x.de), .sb true]) [.var (exL x)]) := by
 obtain ⟨sy, t1, t2, c1, pe, sq, t3, kn, de⟩ := x
 simp only at hk
 subst hk
 refine Runs.mk a0k Tryz.call51 Tryz.func51 rfl Tryz.ntmps51 Tryz.results51 rfl ?_
 (repeat' (first
  | refine SP ?_
  | refine a1d (by decide) ?_
  | (apply a0a <;> intro hb <;> (try simp only [nS, nT, eq_self, reduceCtorEq] at hb))
  | refine a0c ?_
  | exact RT [some 0]
  ))
end Go.Vx.L58.PT
set_option maxRecDepth 100000
namespace Go.Vx.L58
open Go Go.Proofs Go.Vx.L58.PT
theorem a4t {o : Osc} (h : ckO o = 0) {t : Int} (ht : 0 <= t /\ t <= 700000000000000) : -1136000000000000 <= rdF o t /\ rdF o t <= 1836000000000000 := by
 obtain ⟨h1, h2⟩ := a5v h
 have hs := b5j h1
 have hl := a4r o.sg o.sg.length
 have h3 := b17 (t := t) (by omega) hs o.sg.length (by omega)
 have h4 := b1q (t := t) (by omega) hs o.sg.length (by omega)
 have h5 := h1.l2
 unfold rdF
 omega
structure Gp where
 node : Int
 master : Int
 measured : Int
 actual : Int
 delay : Int
 known : Bool
 deriving DecidableEq, Inhabited
def gpC (g : Gp) : List AV := [.val (.int .i64 g.node), .val (.int .i64 g.master), .val (.int .i64 g.measured), .val (.int .i64 g.actual), .val (.int .i64 g.delay), .sb g.known]
instance : FlatC gpC := ⟨fun x v h => by simp [gpC] at h; rcases h with rfl | rfl | rfl | rfl | rfl | rfl <;> trivial⟩
abbrev gp0 : Gp := ⟨0, 0, 0, 0, 0, false⟩
abbrev gpA (g : Gp) : AV := .agg [.val (.int .i64 g.node), .val (.int .i64 g.master), .val (.int .i64 g.measured), .val (.int .i64 g.actual), .val (.int .i64 g.delay), .sb g.known]
def msM (w : Wy) : Nat := (w.N.getD 0 0).toNat
def msN (w : Wy) : Nat := (w.N.getD (w.N.length - 1) 0).toNat
def msA (s : Scn) (w : Wy) (t : Int) : Int := a66 s w.N w.T t
def msB (s : Scn) (w : Wy) (t : Int) : Int := a66 s w.N.reverse w.B.reverse (msA s w t + 1000000)
def msL (s : Scn) (w : Wy) (t : Int) : Int := rdF (s.os.getD (msN w) os0) (msA s w t) - rdF (s.os.getD (msM w) os0) t - b1f s w.N w.T t
def msK (s : Scn) (w : Wy) (t : Int) : Int := rdF (s.os.getD (msM w) os0) (msB s w t) - rdF (s.os.getD (msN w) os0) (msA s w t + 1000000) - b1f s w.N.reverse w.B.reverse (msA s w t + 1000000)
def msD (s : Scn) (w : Wy) (t : Int) : Int := if (msL s w t + msK s w t) / 2 > 0 then (msL s w t + msK s w t) / 2 else 0
def msF (s : Scn) (w : Wy) (t : Int) : Gp := ⟨msN w, msM w, msL s w t - msD s w t, rdF (s.os.getD (msN w) os0) (msA s w t) - rdF (s.os.getD (msM w) os0) (msA s w t), msD s w t, true⟩
set_option maxHeartbeats 16000000 in
theorem b97 (s : Scn) (hs : CkOK s) (hns : s.ns.length = s.os.length) (w : Wy) (c1 c2 c3 : Option Nat) (hw : WyOK s w.N w.T) (hw' : WyOK s w.N.reverse w.B.reverse) (hN : w.N.length <= 1000) (hB : w.B.length <= 1000) (t : Int) (ht : 0 <= t /\ t <= 562949953421312) :
  Runs Tryz.prog 22 [scA s, wyA w c1 c2 c3 8, .val (.int .i64 t)] [gB s.l, ndB s.ns, osB s.os s.hd, osR s.os s.hd, iB false s.dn, iB false s.up, blB s.tr, iB false s.st, iB false w.N, iB false w.T, iB false w.B] (Det (gpA (msF s w t)) [gB s.l, ndB s.ns, osB s.os s.hd, osR s.os s.hd, iB false s.dn, iB false s.up, blB s.tr, iB false s.st, iB false w.N, iB false w.T, iB false w.B]) := by
 have hbA := b2m hs hw (t0 := t) (by omega)
 have hbB := b2m hs hw' (t0 := a66 s w.N w.T t + 1000000) (by omega)
 have hnl := hw.len
 have hl1 := hw.l1
 have h24 := hw.l24
 have hn0 := hw.nd 0 (by omega)
 have hnn := hw.nd (w.N.length - 1) (by omega)
 have hcs := fun m hm hc => d0w s hs w c1 c2 c3 hw m hm hc t (by omega)
 have hcr := fun m hm hc => d0y s hs w c1 c2 c3 hN hB hw' m hm hc (a66 s w.N w.T t + 1000000) (by omega)
 have eM : (w.N.getD (0 + Int.toNat 0) 0) = w.N.getD 0 0 := rfl
 have eN : (w.N.getD (0 + (IntKind.i64.wrap ((w.N.length : Int) - 1)).toNat) 0) = w.N.getD (w.N.length - 1) 0 := by congr 1; rw [IntKind.wrap_i64]; omega
 have hMm : ((msM w : Nat) : Int) = w.N.getD 0 0 := by unfold msM; omega
 have hNn : ((msN w : Nat) : Int) = w.N.getD (w.N.length - 1) 0 := by unfold msN; omega
 have hM1 : msM w < s.os.length := by omega
 have hN1 : msN w < s.os.length := by omega
 unfold msF msD msL msK msB msA
 generalize a66 s w.N.reverse w.B.reverse (a66 s w.N w.T t + 1000000) = b at *
 generalize b1f s w.N.reverse w.B.reverse (a66 s w.N w.T t + 1000000) = q at *
 generalize b1f s w.N w.T t = p at *
 generalize a66 s w.N w.T t = a at *
 generalize msM w = M at *
 generalize msN w = N at *
 have hoM := hs.os M hM1
 have hoN := hs.os N hN1
 have r1 := a3w s M hM1 hoM t (by omega)
 have r2 := a3w s N hN1 hoN a (by omega)
 have r3 := a3w s M hM1 hoM a (by omega)
 have r4 := a3w s M hM1 hoM b (by omega)
 have r5 := a3w s N hN1 hoN (a + 1000000) (by omega)
 have b1 := a4t hoM (t := t) (by omega)
 have b2 := a4t hoN (t := a) (by omega)
 have b3 := a4t hoM (t := a) (by omega)
 have b4 := a4t hoM (t := b) (by omega)
 have b5 := a4t hoN (t := a + 1000000) (by omega)
 generalize rdF (s.os.getD M os0) t = x1 at *
 generalize rdF (s.os.getD N os0) a = x2 at *
 generalize rdF (s.os.getD M os0) a = x3 at *
 generalize rdF (s.os.getD M os0) b = x4 at *
 generalize rdF (s.os.getD N os0) (a + 1000000) = x5 at *
 have wa : IntKind.i64.wrap (a + 1000000) = a + 1000000 := by rw [IntKind.wrap_i64]; omega
 have w1 : IntKind.i64.wrap (3900000000000000000 + x1) = 3900000000000000000 + x1 := by rw [IntKind.wrap_i64]; omega
 have w4 : IntKind.i64.wrap (3900000000000000000 + x4) = 3900000000000000000 + x4 := by rw [IntKind.wrap_i64]; omega
 have o1 := d3b (3900000000000000000 + x1) (by omega) (by omega)
 have o4 := d3b (3900000000000000000 + x4) (by omega) (by omega)
 have hm1 : MgOK ⟨0, 0, (s.ns.getD (0 + Int.toNat (w.N.getD (0 + Int.toNat 0) 0)) nd0).id, 0, a4k (3900000000000000000 + x1), a4o (3900000000000000000 + x1), 0, 0⟩ := ⟨by show (0 : Int) <= 0 /\ (0 : Int) <= 65535; omega, by show 0 <= a4k _ /\ a4k _ <= _; unfold a4k; omega, by show 0 <= a4o _ /\ a4o _ < _; unfold a4o; omega, by show (0 : Int) <= 0 /\ (0 : Int) <= 65535; omega, .inl ⟨.inl rfl, rfl, rfl⟩⟩
 have hm2 : MgOK ⟨1, 0, (s.ns.getD (0 + Int.toNat (w.N.getD (0 + (IntKind.i64.wrap ((w.N.length : Int) - 1)).toNat) 0)) nd0).id, 0, 0, 0, 0, 0⟩ := ⟨by show (0 : Int) <= 0 /\ (0 : Int) <= 65535; omega, by show (0 : Int) <= 0 /\ (0 : Int) <= 281474976710655; omega, by show (0 : Int) <= 0 /\ (0 : Int) < 1000000000; omega, by show (0 : Int) <= 0 /\ (0 : Int) <= 65535; omega, .inl ⟨.inr rfl, rfl, rfl⟩⟩
 have hm1' : MgOK (a84 ⟨0, 0, (s.ns.getD (0 + Int.toNat (w.N.getD (0 + Int.toNat 0) 0)) nd0).id, 0, a4k (3900000000000000000 + x1), a4o (3900000000000000000 + x1), 0, 0⟩ p) := ⟨hm1.seq, hm1.sec, hm1.nano, hm1.rp, hm1.kind⟩
 have hm9 : MgOK ⟨9, 0 + q * 65536, (s.ns.getD (0 + Int.toNat (w.N.getD (0 + Int.toNat 0) 0)) nd0).id, 0, a4k (3900000000000000000 + x4), a4o (3900000000000000000 + x4), (s.ns.getD (0 + Int.toNat (w.N.getD (0 + (IntKind.i64.wrap ((w.N.length : Int) - 1)).toNat) 0)) nd0).id, 1⟩ := ⟨by show (0 : Int) <= 0 /\ (0 : Int) <= 65535; omega, by show 0 <= a4k _ /\ a4k _ <= _; unfold a4k; omega, by show 0 <= a4o _ /\ a4o _ < _; unfold a4o; omega, by show (0 : Int) <= 1 /\ (1 : Int) <= 65535; omega, .inr rfl⟩
 have cs := hcs _ hm1 rfl
 have cr := hcr _ hm2 rfl
 have z0 : (0 + p * 65536) / 65536 = p := by omega
 have z1 : (0 + q * 65536) / 65536 = q := by omega
 have ex1 := c9t x0 _ hm1' rfl (by show 0 <= 0 + p * 65536 /\ 0 + p * 65536 <= _; omega) x1 (by omega) rfl rfl x2 (by omega) (by omega)
 have ex2 := b9b ⟨true, x1, x2, (0 + p * 65536) / 65536, false, 0, 0, false, 0⟩ 0 x5 (by omega) (by omega)
 have ex3 := b63 ⟨true, x1, x2, (0 + p * 65536) / 65536, true, 0, x5, false, 0⟩ _ hm9 rfl rfl rfl rfl (by show 0 <= 0 + q * 65536 /\ 0 + q * 65536 <= _; omega) (by show _ <= x1 /\ x1 <= _; omega) (by show _ <= x2 /\ x2 <= _; omega) (by show _ <= x5 /\ x5 <= _; omega) (by show 0 <= (0 + p * 65536) / 65536 /\ (0 + p * 65536) / 65536 <= _; omega) x4 (by show _ <= x4 /\ x4 <= _; omega) rfl rfl
 have hde : deF ⟨true, x1, x2, (0 + p * 65536) / 65536, true, 0, x5, false, 0⟩ x4 ((0 + q * 65536) / 65536) = if (x2 - x1 - p + (x4 - x5 - q)) / 2 > 0 then (x2 - x1 - p + (x4 - x5 - q)) / 2 else 0 := by
  rw [z0, z1]
 have hdb : 0 <= deF ⟨true, x1, x2, (0 + p * 65536) / 65536, true, 0, x5, false, 0⟩ x4 ((0 + q * 65536) / 65536) /\ deF ⟨true, x1, x2, (0 + p * 65536) / 65536, true, 0, x5, false, 0⟩ x4 ((0 + q * 65536) / 65536) <= 4503599627370496 := by
  rw [hde]; split <;> omega
 rw [<- hde]
 have hdd : deF ⟨true, x1, x2, (0 + p * 65536) / 65536, true, 0, x5, false, 0⟩ x4 ((⟨9, 0 + q * 65536, (s.ns.getD (0 + Int.toNat (w.N.getD (0 + Int.toNat 0) 0)) nd0).id, 0, a4k (3900000000000000000 + x4), a4o (3900000000000000000 + x4), (s.ns.getD (0 + Int.toNat (w.N.getD (0 + (IntKind.i64.wrap ((w.N.length : Int) - 1)).toNat) 0)) nd0).id, 1⟩ : Mg).corr / 65536) = deF ⟨true, x1, x2, (0 + p * 65536) / 65536, true, 0, x5, false, 0⟩ x4 ((0 + q * 65536) / 65536) := rfl
 rw [hdd] at ex3
 generalize deF ⟨true, x1, x2, (0 + p * 65536) / 65536, true, 0, x5, false, 0⟩ x4 ((0 + q * 65536) / 65536) = de at *
 have ex4 := c4v ⟨true, x1, x2, (0 + p * 65536) / 65536, false, 0, x5, true, de⟩ rfl (by show _ <= x1 /\ x1 <= _; omega) (by show _ <= x2 /\ x2 <= _; omega) (by show 0 <= (0 + p * 65536) / 65536 /\ (0 + p * 65536) / 65536 <= _; omega) (by show 0 <= de /\ de <= _; omega)
 have ex5 := c50 ⟨true, x1, x2, (0 + p * 65536) / 65536, false, 0, x5, true, de⟩ rfl
 have hnw := d1r
 have z2 : c0e ⟨true, x1, x2, (0 + p * 65536) / 65536, false, 0, x5, true, de⟩ = x2 - x1 - p := by
  show x2 - x1 - (0 + p * 65536) / 65536 = _; rw [z0]
 rw [z2] at ex4
 refine Runs.mk a0k Tryz.call22 Tryz.func22 rfl Tryz.ntmps22 Tryz.results22 rfl ?_
 (repeat' (first
  | refine SP ?_
  | (apply a0a <;> intro hb <;> (try simp only [nS, nT, eq_self, reduceCtorEq] at hb) <;> (try (exfalso; omega)))
  | refine a0q (by decide +kernel) ?_
  | refine a0c ?_
  | refine OB ?_
  | ((first | apply a1a [some 0, some 1, some 2, some 3, some 4, some 5, some 6, some 7] (r1) | apply a0m [some 0, some 1, some 2, some 3, some 4, some 5, some 6, some 7] (r1)); exact AS; any_goals (apply a1j; rfl))
  | ((first | apply a1a [some 0, some 1, some 2, some 3, some 4, some 5, some 6, some 7] (r2) | apply a0m [some 0, some 1, some 2, some 3, some 4, some 5, some 6, some 7] (r2)); exact AS; (any_goals (first | (apply a0s; rfl) )))
  | ((first | apply a1a [some 0, some 1, some 2, some 3, some 4, some 5, some 6, some 7] (r3) | apply a0m [some 0, some 1, some 2, some 3, some 4, some 5, some 6, some 7] (r3)); exact AS; (any_goals (first | (apply a0s; rfl) )))
  | ((first | apply a1a [some 0, some 1, some 2, some 3, some 4, some 5, some 6, some 7] (r4) | apply a0m [some 0, some 1, some 2, some 3, some 4, some 5, some 6, some 7] (r4)); exact AS; any_goals (apply a1j; rfl))
  | ((first | apply a0m [some 0, some 1, some 2, some 3, some 4, some 5, some 6, some 7] (r5)); exact AS; (any_goals (first | (apply a0s; rfl) )))
  | ((first | apply a0t (o1) ); exact AS)
  | ((first | apply a0t (o4) ); exact AS)
  | refine CT [some 0, some 1, some 2, some 3, some 4, some 5, some 6, some 7, some 8, some 9, some 10, some 15] cs ?_
  | refine CT [some 0, some 1, some 2, some 3, some 4, some 5, some 6, some 7, some 8, some 9, some 10, some 16] cr ?_
  | ((first | apply a0t (hnw) ); exact AS)
  | ((first | apply a0m [some 18] (ex1)); exact AS; (any_goals (first | (apply a0s; rfl) )))
  | ((first | apply a0m [some 18] (ex2)); exact AS; (any_goals (first | (apply a0s; rfl) )))
  | ((first | apply a0m [some 18] (ex3)); exact AS; (any_goals (first | (apply a0s; rfl) )))
  | refine CT [some 18] ex4 ?_
  | refine CT [some 18] ex5 ?_
  | (apply a0v [some 0, some 1, some 2, some 3, some 4, some 5, some 6, some 7, some 8, some 9, some 10]; (focus (iterate 2 (all_goals (repeat' (first | exact a1f rfl rfl rfl rfl | exact a17 rfl rfl rfl rfl | exact a0g | exact trivial | refine SP ?_ | refine And.intro ?_ ?_ | refine a0d ?_ ?_ | refine a1i ?_ | exact a0b _ _ | exact a0w rfl | exact a0j rfl rfl rfl | ((refine a0f ?_); first | with_reducible rfl | omega | ((try simp only [wS]); omega) | rfl) | refine a0f ?_ ))))); any_goals (apply a0e; rfl))
  ))
 all_goals exact eN.trans hNn.symm
end Go.Vx.L58
set_option maxRecDepth 100000
namespace Go.Vx.L58
open Go Go.Proofs
theorem b3o (s : Scn) : ∀ (k i : Nat), b3y s k i = 0 -> ∀ j, i <= j -> j < i + k -> ckO (s.os.getD j os0) = 0 /\ dly (s.st.getD j 0) = true
 | 0, i, _, j, h1, h2 => by omega
 | k + 1, i, h, j, h1, h2 => by
  rw [b3y] at h
  by_cases c1 : ckO (s.os.getD i os0) = 0
  ·rw [if_neg (by omega)] at h
   by_cases c2 : dly (s.st.getD i 0) = true
   ·rw [if_neg (by rw [c2]; simp)] at h
    by_cases e : j = i
    ·subst e; exact ⟨c1, c2⟩
    ·exact b3o s k (i + 1) h j (by omega) (by omega)
   ·rw [if_pos (by simpa using c2)] at h; omega
  ·rw [if_pos c1] at h; exact absurd h c1
theorem b7q (s : Scn) : ∀ (k i : Nat), b6s s k i = 0 -> ∀ j, i <= j -> j < i + k -> dly (s.dn.getD j 0) = true /\ dly (s.up.getD j 0) = true
 | 0, i, _, j, h1, h2 => by omega
 | k + 1, i, h, j, h1, h2 => by
  rw [b6s] at h
  by_cases c1 : dly (s.dn.getD i 0) = false \/ dly (s.up.getD i 0) = false
  ·rw [if_pos c1] at h; omega
  ·rw [if_neg c1] at h
   by_cases e : j = i
   ·subst e
    exact ⟨by cases hd : dly (s.dn.getD j 0) with | true => rfl | false => exact absurd (.inl hd) c1, by cases hd : dly (s.up.getD j 0) with | true => rfl | false => exact absurd (.inr hd) c1⟩
   ·exact b7q s k (i + 1) h j (by omega) (by omega)
theorem b6v {n : Int} (h : dly n = true) : 0 <= n /\ n <= 10000000000 := of_decide_eq_true h
theorem d6f {s : Scn} (ok : SOk s) (hc : ckS s = 0) : CkOK s := by
 obtain ⟨_, hn, _, _⟩ := a16 ok hc
 obtain ⟨_, ⟨L1, L2, L3, L4, L5⟩, h1, h2⟩ := a2l hc
 exact ⟨fun x hx => (b3o s _ 0 h1 x (Nat.zero_le _) (by omega)).1, fun x hx => b6v (b3o s _ 0 h1 x (Nat.zero_le _) (by omega)).2, by omega, by omega⟩
theorem d3p {s : Scn} (hd : ∀ j, j < s.l.length -> dly (s.dn.getD j 0) = true /\ dly (s.up.getD j 0) = true) (v w : Int) : ∀ k i, i + k <= s.l.length -> (0 <= (upW s v w k i).t /\ (upW s v w k i).t <= 10000000000) /\ (0 <= (upW s v w k i).b /\ (upW s v w k i).b <= 10000000000)
 | 0, i, _ => by simp only [upW]; omega
 | k + 1, i, h => by
  have he := hd i (by omega)
  have h1 := b6v he.1
  have h2 := b6v he.2
  rw [upW]
  split
  ·simp only; omega
  ·split
   ·simp only; omega
   ·exact d3p hd v w k (i + 1) (by omega)
theorem d4k {s : Scn} (hd : ∀ j, j < s.l.length -> dly (s.dn.getD j 0) = true /\ dly (s.up.getD j 0) = true) (C : List Int) (i : Nat) : ∀ k, (0 <= (brK s C i k).t /\ (brK s C i k).t <= 10000000000) /\ (0 <= (brK s C i k).b /\ (brK s C i k).b <= 10000000000)
 | 0 => by simp only [brK]; omega
 | k + 1 => by
  rw [brK]
  split
  ·exact d3p hd _ _ _ _ (by omega)
  ·exact d4k hd C i k
theorem d5t {s : Scn} (hc : ckS s = 0) : ∀ i, (0 <= ((trS s).getD i br0).t /\ ((trS s).getD i br0).t <= 10000000000) /\ (0 <= ((trS s).getD i br0).b /\ ((trS s).getD i br0).b <= 10000000000) := fun i => by
 obtain ⟨_, _, _, h2⟩ := a2l hc
 have hd := fun j (hj : j < s.l.length) => b7q s _ 0 h2 j (Nat.zero_le _) (by omega)
 by_cases h : i < s.ns.length
 ·have e : (trS s).getD i br0 = brK s (cdS s i) i 8 := by
   show (trI s s.ns.length s.ns.length 0).getD i br0 = _
   unfold trI
   rw [a2r _ _ _ _ h, if_pos h]
  rw [e]
  exact d4k hd _ i 8
 ·have e : (trS s).getD i br0 = br0 := by
   show (trI s s.ns.length s.ns.length 0).getD i br0 = _
   unfold trI
   rw [a5c _ _ _ _ h]
  rw [e]
  exact ⟨⟨by decide, by decide⟩, ⟨by decide, by decide⟩⟩
def upL (s : Scn) (v : Nat) : List Int := clF (trS s) (s.ns.length - 1) v
def wyM (s : Scn) (v : Nat) : Nat := wM s.tr (upL s v)
def wyS (s : Scn) (v : Nat) : Wy := ⟨wN (upL s v) (wyM s v) (wyM s v + 1), wT (trS s) (upL s v) (wyM s v) (wyM s v), wB (trS s) (upL s v) (wyM s v) (wyM s v)⟩
theorem b2h (s : Scn) (v : Nat) : (wyS s v).N.length = wyM s v + 1 /\ (wyS s v).T.length = wyM s v /\ (wyS s v).B.length = wyM s v := ⟨a5z .., a5z .., a5z ..⟩
theorem a8w {s : Scn} (ok : SOk s) (hc : ckS s = 0) {v : Nat} (hv : v < s.ns.length) : (1 <= (upL s v).length /\ (upL s v).length <= s.ns.length) /\ ∀ i, i < (upL s v).length -> 0 <= (upL s v).getD i 0 /\ (upL s v).getD i 0 < s.ns.length := by
 obtain ⟨_, hn, _, _⟩ := a16 ok hc
 have hT := c7u ok hc
 have hTl : (trS s).length = s.ns.length := b34 ..
 have h1 := b6b (trS s) (s.ns.length - 1) v
 have h2 := fun i hi => c2f hT (s.ns.length - 1) v (by omega) _ (a2s (clF (trS s) (s.ns.length - 1) v) i 0 hi)
 rw [hTl] at h2
 exact ⟨by unfold upL; omega, h2⟩
theorem b1x {s : Scn} (ok : SOk s) (hc : ckS s = 0) {v : Nat} (hv : v < s.ns.length) : wyM s v + 1 <= (upL s v).length := by
 have h := a8w ok hc hv
 unfold wyM wM
 omega
theorem a5a (l : List Int) (i : Nat) (h : i < l.length) : l.reverse.getD i 0 = l.getD (l.length - 1 - i) 0 := by
 rw [List.getD_eq_getElem?_getD, List.getElem?_reverse h, <- List.getD_eq_getElem?_getD]
theorem c0v {s : Scn} (ok : SOk s) (hc : ckS s = 0) {v : Nat} (hv : v < s.ns.length) (hm : 0 < wyM s v) : WyOK s (wyS s v).N (wyS s v).T /\ WyOK s (wyS s v).N.reverse (wyS s v).B.reverse := by
 obtain ⟨l1, l2, l3⟩ := b2h s v
 have hU := a8w ok hc hv
 have hM := b1x ok hc hv
 obtain ⟨_, ⟨L1, L2, L3, L4, L5⟩, _, _⟩ := a2l hc
 obtain ⟨_, hn, _, _⟩ := a16 ok hc
 have hd := d5t hc
 have n1 : ∀ i, i < wyM s v + 1 -> 0 <= (wyS s v).N.getD i 0 /\ (wyS s v).N.getD i 0 < s.os.length := fun i hi => by
  have := a62 (fun i => (upL s v).getD i 0) (wyM s v) (wyM s v + 1) i hi
  have e : (wyS s v).N.getD i 0 = (upL s v).getD (wyM s v - i) 0 := this
  rw [e, L1]
  exact hU.2 _ (by omega)
 have t1 : ∀ i, i < wyM s v -> 0 <= (wyS s v).T.getD i 0 /\ (wyS s v).T.getD i 0 <= 10000000000 := fun i hi => by
  have := a62 (fun i => ((trS s).getD ((upL s v).getD (i - 1) 0).toNat br0).t) (wyM s v) (wyM s v) i hi
  have e : (wyS s v).T.getD i 0 = ((trS s).getD ((upL s v).getD (wyM s v - i - 1) 0).toNat br0).t := this
  rw [e]
  exact (hd _).1
 have b1 : ∀ i, i < wyM s v -> 0 <= (wyS s v).B.getD i 0 /\ (wyS s v).B.getD i 0 <= 10000000000 := fun i hi => by
  have := a62 (fun i => ((trS s).getD ((upL s v).getD (i - 1) 0).toNat br0).b) (wyM s v) (wyM s v) i hi
  have e : (wyS s v).B.getD i 0 = ((trS s).getD ((upL s v).getD (wyM s v - i - 1) 0).toNat br0).b := this
  rw [e]
  exact (hd _).2
 refine ⟨⟨by omega, by omega, by omega, fun i hi => n1 i (by omega), fun i hi => t1 i (by omega)⟩, ⟨?_, ?_, ?_, fun i hi => ?_, fun i hi => ?_⟩⟩
 ·rw [List.length_reverse, List.length_reverse]; omega
 ·rw [List.length_reverse]; omega
 ·rw [List.length_reverse]; omega
 ·rw [List.length_reverse] at hi
  rw [a5a _ _ hi]; exact n1 _ (by omega)
 ·rw [List.length_reverse] at hi
  rw [a5a _ _ hi]; exact b1 _ (by omega)
theorem b7g (s : Scn) (hs : CkOK s) (hns : s.ns.length = s.os.length) (w : Wy) (m : Nat) (c1 c2 c3 : Option Nat) (l1 : w.N.length = m + 1) (l2 : w.T.length = m) (l3 : w.B.length = m) (hm : m <= 24) (hw : WyOK s w.N w.T) (hw' : WyOK s w.N.reverse w.B.reverse) (t : Int) (ht : 0 <= t /\ t <= 562949953421312) :
  Runs Tryz.prog 22 [scA s, .agg [.sl 8 1 0 (m + 1) c1, .sl 9 1 0 m c2, .sl 10 1 0 m c3], .val (.int .i64 t)] [gB s.l, ndB s.ns, osB s.os s.hd, osR s.os s.hd, iB false s.dn, iB false s.up, blB s.tr, iB false s.st, .arr false 3 1 (m + 1) (a2v w.N), .arr false 3 1 m (a2v w.T), .arr false 3 1 m (a2v w.B)]
   (Det (gpA (msF s w t)) [gB s.l, ndB s.ns, osB s.os s.hd, osR s.os s.hd, iB false s.dn, iB false s.up, blB s.tr, iB false s.st, .arr false 3 1 (m + 1) (a2v w.N), .arr false 3 1 m (a2v w.T), .arr false 3 1 m (a2v w.B)]) := by
 have h := b97 s hs hns w c1 c2 c3 hw hw' (by omega) (by omega) t ht
 unfold wyA iB at h
 rw [l1, l2, l3] at h
 exact h
def rnG (s : Scn) (t : Int) (v : Nat) : Gp := if wyM s v = 0 then ⟨v, -1, 0, 0, 0, false⟩ else msF s (wyS s v) t
def rnI (s : Scn) (t : Int) (x : Nat) : List Gp := (List.range s.ns.length).map fun i => if i < x then rnG s t i else gp0
abbrev rnL (s : Scn) (t : Int) : List Gp := rnI s t s.ns.length
theorem c2m (s : Scn) (t : Int) (x : Nat) : (rnI s t x).length = s.ns.length := b3z ..
theorem d5m (s : Scn) (t : Int) : rnI s t 0 = List.replicate s.ns.length gp0 := by
 refine List.ext_getElem (by simp [rnI]) fun k h1 h2 => ?_
 simp [rnI]
theorem c9i (s : Scn) (t : Int) (x : Nat) (hx : x < s.ns.length) : (∀ k, k ≠ x -> (rnI s t (x + 1)).getD k gp0 = (rnI s t x).getD k gp0) /\ (rnI s t (x + 1)).getD x gp0 = rnG s t x := by
 refine ⟨fun k hk => ?_, ?_⟩
 ·by_cases h : k < s.ns.length
  ·unfold rnI
   rw [a2r _ _ _ _ h, a2r _ _ _ _ h]
   by_cases h2 : k < x
   ·rw [if_pos h2, if_pos (by omega)]
   ·rw [if_neg h2, if_neg (by omega)]
  ·unfold rnI
   rw [a5c _ _ _ _ h, a5c _ _ _ _ h]
 ·unfold rnI
  rw [a2r _ _ _ _ hx, if_pos (by omega)]
theorem c7v {ρ : Nat -> Option Nat} {L L' : List Gp} {x n n' q : Nat} {g : Gp} {vs : List AV} (hq : q = x) (ho : ∀ k, k ≠ x -> L'.getD k gp0 = L.getD k gp0) (hx : L'.getD x gp0 = g) (hv : ∀ j, j < 6 -> sub ρ (nth (gpC g) j) (vs.getD j .dead)) (hn : n' = n) :
  a3v ρ (.arr true 41 6 n (a2e gpC gp0 L')) (.arr true 41 6 n' fun i' j' => bif Nat.beq i' q && (Nat.ble 0 j' && Nat.blt j' (0 + 6)) then vs.getD (j' - 0) .dead else a2e gpC gp0 L i' j') := by
 subst hq
 refine b3q q (l := L) ho (fun j hj => ?_) (fun i hi j => ?_) hn
 ·rw [hx]
  have hb : (Nat.ble 0 j && Nat.blt j (0 + 6)) = true := by
   rw [Bool.and_eq_true]; exact ⟨Nat.ble_eq_true_of_le (Nat.zero_le _), Nat.ble_eq_true_of_le (by omega)⟩
  simp only [Nat.beq_refl, hb, Bool.and_self, cond_true]
  exact hv j hj
 ·rw [show Nat.beq i q = false from a7f hi]; rfl
set_option maxHeartbeats 8000000 in
theorem b7c (s : Scn) (ok : SOk s) (t : Int) :
  (ckS s ≠ 0 -> Runs Tryz.prog 10 [scA s, .val (.int .i64 t)] (scB s) (Det (.tup [.val (.slice none 0 0), .val (.int .i64 (ckS s))]) (scB s))) /\
  (ckS s = 0 -> ¬ (0 <= t /\ t <= 562949953421312) -> Runs Tryz.prog 10 [scA s, .val (.int .i64 t)] (scB s) (Det (.tup [.val (.slice none 0 0), .val (.int .i64 3)]) (scB s))) /\
  (ckS s = 0 -> 0 <= t /\ t <= 562949953421312 -> Runs Tryz.prog 10 [scA s, .val (.int .i64 t)] (scB s) (Det (.tup [.sl 8 6 0 s.ns.length none, .val (.int .i64 0)]) [gB s.l, ndB s.ns, osB s.os s.hd, osR s.os s.hd, iB false s.dn, iB false s.up, blB s.tr, iB false s.st, .arr true 41 6 s.ns.length (a2e gpC gp0 (rnL s t))])) := by
 have hmx : maxLen = 9223372036854775807 := by decide
 have hn := ok.hn
 have hck := b5u s ok
 refine ⟨fun hc => ?_, fun hc hv => ?_, fun hc hv => ?_⟩
 ·generalize ckS s = c at *
  refine Runs.mk a0k Tryz.call10 Tryz.func10 rfl Tryz.ntmps10 Tryz.results10 rfl ?_
  (repeat' (first
  | refine SP ?_
  | (apply a0a <;> intro hb <;> (try simp only [nS, nT, eq_self, reduceCtorEq] at hb) <;> (try (exfalso; omega)))
  | refine a0c ?_
  | refine CT [some 0, some 1, some 2, some 3, some 4, some 5, some 6, some 7] hck ?_
  | exact RT [some 0, some 1, some 2, some 3, some 4, some 5, some 6, some 7]
  ))
 ·rw [hc] at hck
  refine Runs.mk a0k Tryz.call10 Tryz.func10 rfl Tryz.ntmps10 Tryz.results10 rfl ?_
  (repeat' (first
  | refine SP ?_
  | (apply a0a <;> intro hb <;> (try simp only [nS, nT, eq_self, reduceCtorEq] at hb) <;> (try (exfalso; omega)))
  | refine a0c ?_
  | refine CT [some 0, some 1, some 2, some 3, some 4, some 5, some 6, some 7] hck ?_
  | exact RT [some 0, some 1, some 2, some 3, some 4, some 5, some 6, some 7]
  ))
 have htr := d0k s ok hc
 have hT := c7u ok hc
 have hTl : (trS s).length = s.ns.length := b34 ..
 obtain ⟨_, ⟨L1, L2, L3, L4, L5⟩, _, _⟩ := a2l hc
 obtain ⟨_, hn24, _, _⟩ := a16 ok hc
 have hcko := d6f ok hc
 rw [hc] at hck
 have hwy := fun v (hv : v < s.ns.length) => c6e s (trS s) hT (by omega) none v (by rw [hTl]; exact hv)
 unfold brB at hwy
 rw [hTl] at hwy
 have hwl := b2h s
 have hwb := fun v hv => b1x ok hc (v := v) hv
 have hub := fun v hv => a8w ok hc (v := v) hv
 have hms := fun v (h1 : v < s.ns.length) h2 => b7g s hcko (by omega) (wyS s v) (wyM s v) none none none (hwl v).1 (hwl v).2.1 (hwl v).2.2 (by have := hwb v h1; have := hub v h1; omega) (c0v ok hc h1 h2).1 (c0v ok hc h1 h2).2 t hv
 have hg : ∀ v, rnG s t v = if wyM s v = 0 then ⟨v, -1, 0, 0, 0, false⟩ else msF s (wyS s v) t := fun _ => rfl
 have hl0 := d5m s t
 have hll := c2m s t
 have hlu := c9i s t
 generalize hLL : rnI s t = L at *
 refine Runs.mk a0k Tryz.call10 Tryz.func10 rfl Tryz.ntmps10 Tryz.results10 rfl ?_
 (repeat' (first
  | refine SP ?_
  | (apply a0a <;> intro hb <;> (try simp only [nS, nT, eq_self, reduceCtorEq] at hb) <;> (try (exfalso; omega)))
  | refine a0c ?_
  | refine OB ?_
  | refine CT [some 0, some 1, some 2, some 3, some 4, some 5, some 6, some 7] hck ?_
  | refine CT [some 0, some 1, some 2, some 3, some 4, some 5, some 6, some 7] htr ?_
  ))
 refine a0p (σ := Nat) (fun x => x <= s.ns.length) (fun x => ⟨[(1, .val (.int .i64 t)), (2, .ptr 8 8 0 0), (7, .sl 9 3 0 s.ns.length none), (8, .sl 10 6 0 s.ns.length none), (28, .val (.int .i64 s.ns.length)), (29, .val (.int .i64 x))], [gB s.l, ndB s.ns, osB s.os s.hd, osR s.os s.hd, iB false s.dn, iB false s.up, blB s.tr, iB false s.st, .var (scV s), .arr true 95 3 s.ns.length (a2e brC br0 (trS s)), .arr true 41 6 s.ns.length (a2e gpC gp0 (L x))]⟩) (fun x => s.ns.length - x) (0) ?_ ?_ ?_
 ·omega
 ·rw [hl0]
  (apply a04 [some 0, some 1, some 2, some 3, some 4, some 5, some 6, some 7, some 8, some 9, some 10]; (focus (iterate 2 (all_goals (repeat' (first | exact a1f rfl rfl rfl rfl | exact a17 rfl rfl rfl rfl | exact a0g | exact trivial | refine SP ?_ | refine And.intro ?_ ?_ | refine a0d ?_ ?_ | refine a09 ?_ | exact a0z rfl rfl | exact a0r rfl rfl rfl | exact a0b _ _ | exact a0j rfl rfl rfl | exact a5o rfl rfl rfl ))))); any_goals (apply a0e; rfl))
  all_goals exact a9r (x := gp0) (a0d (a0f rfl) (a0d (a0f rfl) (a0d (a0f rfl) (a0d (a0f rfl) (a0d (a0f rfl) (a0d (a0w rfl) a0g)))))) rfl rfl
 rintro v hv'
 by_cases hvl : v < s.ns.length
 ·have hz : 0 + Int.toNat (v : Int) = v := by omega
  have hwy := hwy v hvl
  obtain ⟨u1, u2⟩ := hlu v hvl
  rw [hg] at u2
  by_cases hm : wyM s v = 0
  ·rw [if_pos hm] at u2
   have hm' : wM s.tr (clF (trS s) (s.ns.length - 1) v) = 0 := hm
   rw [hm'] at hwy
   (repeat' (first
  | refine SP ?_
  | (apply a0a <;> intro hb <;> (try simp only [nS, nT, eq_self, reduceCtorEq] at hb) <;> (try (exfalso; omega)))
  | refine a0c ?_
  | refine OB ?_
  | refine CT [some 0, some 1, some 2, some 3, some 4, some 5, some 6, some 7, some 9] hwy ?_
  | (apply a0i (Subtype.mk (v + 1) _); (focus (apply a04 [some 0, some 1, some 2, some 3, some 4, some 5, some 6, some 7, some 8, some 9, some 10]; (focus (iterate 2 (all_goals (repeat' (first | exact a1f rfl rfl rfl rfl | exact a17 rfl rfl rfl rfl | exact a0g | exact trivial | refine SP ?_ | refine And.intro ?_ ?_ | refine a0d ?_ ?_ | refine a09 ?_ | exact a0z rfl rfl | exact a0r rfl rfl rfl | exact a0b _ _ | exact a0j rfl rfl rfl | ((refine a0f ?_); first | with_reducible rfl | omega | ((try simp only [wS]); omega) | rfl) ))))); any_goals (apply a0e; rfl))); (all_goals (try (first | omega | (simp only; omega)))))
  ))
   all_goals exact c7v (by omega) u1 u2 (a0o (a0f rfl) (a0o (a0f rfl) (a0o (a0f rfl) (a0o (a0f rfl) (a0o (a0f rfl) (a0o (a0w rfl) a3c)))))) rfl
  ·rw [if_neg hm] at u2
   have hms := hms v hvl (by omega)
   have hm0 : 0 < wyM s v := by omega
   have e1 : wM s.tr (clF (trS s) (s.ns.length - 1) v) = wyM s v := rfl
   have e2 : wN (clF (trS s) (s.ns.length - 1) v) (wyM s v) (wyM s v + 1) = (wyS s v).N := rfl
   have e3 : wT (trS s) (clF (trS s) (s.ns.length - 1) v) (wyM s v) (wyM s v) = (wyS s v).T := rfl
   have e4 : wB (trS s) (clF (trS s) (s.ns.length - 1) v) (wyM s v) (wyM s v) = (wyS s v).B := rfl
   rw [e1, e2, e3, e4] at hwy
   generalize msF s (wyS s v) t = G at *
   generalize wyS s v = W at *
   generalize wyM s v = M at *
   (repeat' (first
  | refine SP ?_
  | (apply a0a <;> intro hb <;> (try simp only [nS, nT, eq_self, reduceCtorEq] at hb) <;> (try (exfalso; omega)))
  | refine a0c ?_
  | refine OB ?_
  | refine CT [some 0, some 1, some 2, some 3, some 4, some 5, some 6, some 7, some 9] hwy ?_
  | ((first | apply a1a [some 0, some 1, some 2, some 3, some 4, some 5, some 6, some 7, some _, some _, some _] (hms) ); exact AS; any_goals (apply a1j; rfl))
  | (apply a0i (Subtype.mk (v + 1) _); (focus (apply a04 [some 0, some 1, some 2, some 3, some 4, some 5, some 6, some 7, some 8, some 9, some 10]; (focus (iterate 2 (all_goals (repeat' (first | exact a1f rfl rfl rfl rfl | exact a17 rfl rfl rfl rfl | exact a0g | exact trivial | refine SP ?_ | refine And.intro ?_ ?_ | refine a0d ?_ ?_ | refine a09 ?_ | exact a0z rfl rfl | exact a0r rfl rfl rfl | exact a0b _ _ | exact a0j rfl rfl rfl | ((refine a0f ?_); first | with_reducible rfl | omega | ((try simp only [wS]); omega) | rfl) ))))); any_goals (apply a0e; rfl))); (all_goals (try (first | omega | (simp only; omega)))))
  ))
   all_goals exact c7v (by omega) u1 u2 (a0o (a0f rfl) (a0o (a0f rfl) (a0o (a0f rfl) (a0o (a0f rfl) (a0o (a0f rfl) (a0o (a1m rfl) a3c)))))) rfl
 ·obtain rfl : v = s.ns.length := by omega
  (repeat' (first
  | refine SP ?_
  | (apply a0a <;> intro hb <;> (try simp only [nS, nT, eq_self, reduceCtorEq] at hb) <;> (try (exfalso; omega)))
  | (apply a0v [some 0, some 1, some 2, some 3, some 4, some 5, some 6, some 7, some 10]; (focus (iterate 2 (all_goals (repeat' (first | exact a1f rfl rfl rfl rfl | exact a17 rfl rfl rfl rfl | exact a0g | exact trivial | refine SP ?_ | refine And.intro ?_ ?_ | refine a0d ?_ ?_ | refine a1c ?_ | exact a0r rfl rfl rfl | exact a0b _ _ | exact a0j rfl rfl rfl | ((first | show (_ : Nat) = _); first | with_reducible rfl | omega | ((try simp only [wS]); omega) | rfl) | refine a0j rfl ?_ ?_ ))))); any_goals (apply a0e; rfl))
  ))
  all_goals (rw [<- hLL])
end Go.Vx.L58
set_option maxRecDepth 100000
namespace Go.Vx.L58
open Go Go.Proofs
theorem b2b (s : Scn) (v w : Int) : ∀ k i, i + k = s.l.length -> (a2d (s.l.drop i) v w).2.2 = true -> (upW s v w k i).p = (a2d (s.l.drop i) v w).1
 | 0, i, h, hp => by
  rw [List.drop_eq_nil_of_le (by omega)] at hp
  simp [a2d] at hp
 | k + 1, i, h, hp => by
  rw [drop_cons s.l i ed0 (by omega)] at hp ⊢
  rw [upW]
  unfold a2d at hp ⊢
  by_cases c1 : (s.l.getD i ed0).a = v /\ (s.l.getD i ed0).pa = w
  ·rw [if_pos c1, if_pos c1]
  ·rw [if_neg c1, if_neg c1]
   rw [if_neg c1] at hp
   by_cases c2 : (s.l.getD i ed0).b = v /\ (s.l.getD i ed0).pb = w
   ·rw [if_pos c2, if_pos c2]
   ·rw [if_neg c2, if_neg c2]
    rw [if_neg c2] at hp
    exact b2b s v w k (i + 1) (by omega) hp
theorem b8w (s : Scn) (C : List Int) (x : Nat) : ∀ k, (∀ i, i < k -> C.getD i 0 ≠ 6) -> brK s C x k = bm
 | 0, _ => rfl
 | k + 1, h => by
  rw [brK, if_neg (h k (by omega))]
  exact b8w s C x k fun i hi => h i (by omega)
theorem c2c (s : Scn) (C : List Int) (x b : Nat) : ∀ k, b < k -> (∀ i, i < k -> (C.getD i 0 = 6 ↔ i = b)) -> brK s C x k = upF s x ((b : Int) + 1)
 | 0, hb, _ => by omega
 | k + 1, hb, h => by
  rw [brK]
  by_cases e : k = b
  ·subst e
   rw [if_pos ((h k (by omega)).2 rfl)]
  ·rw [if_neg (fun h' => e ((h k (by omega)).1 h'))]
   exact c2c s C x b k (by omega) fun i hi => h i (by omega)
section
variable {s : Scn}
abbrev gS (s : Scn) : NetP := a1v s.ns s.l
abbrev mS (s : Scn) : Mem := (gS s).run (fun _ _ => none) s.ns.length
theorem b3e (ok : SOk s) (hc : ckS s = 0) (x i : Nat) (hi : i < 8) : (cdS s x).getD i 0 = (gS s).cod (mS s) x i := by
 obtain ⟨hN, _, _, _⟩ := a16 ok hc
 have hV := c78 hN (a79 (ns := s.ns) (l := s.l) (ms := []) (by rfl) (fun m h => by cases h)) ((s.ns.length : Int)).toNat
 have hm : a2a (b0p (b3d s)) = mS s := by
  show a2a (b0p (lxA (rsN s.ns s.l) ((a1v s.ns s.l).run (a2a (b0p [])) (s.ns.length : Int).toNat) s.ns.length)) = _
  rw [c5m hN hV, c2y, Int.toNat_natCast]
 unfold cdS
 rw [b20, hm]
 show (b1h _ (hrd (mS s) x) (hrd (mS s) x).length).getD i 0 = _
 rw [a52, a5q _ _ _ _ hi]
 rfl
theorem b3m {G : NetP} {M : Mem} {x : Nat} (h : a2u (G.ow x) (hrd M x) = true) (i : Nat) : G.cod M x i ≠ 6 := by
 unfold NetP.cod a4v
 rw [if_pos h]; decide
theorem b45 {G : NetP} {M : Mem} {x b : Nat} (h : a2u (G.ow x) (hrd M x) = false) (e1 : a2w (hrd M x) = b) (i : Nat) : G.cod M x i = 6 ↔ i = b := by
 unfold NetP.cod a4v
 rw [if_neg (by rw [h]; simp), e1]
 by_cases hib : i = b
 ·rw [if_pos (by rw [hib])]; exact ⟨fun _ => hib, fun _ => rfl⟩
 ·rw [if_neg (by omega)]
  refine ⟨fun h => ?_, fun h => absurd h hib⟩
  split at h <;> cases h
theorem c43 (s : Scn) {x : Nat} (hx : x < s.ns.length) : (trS s).getD x br0 = brK s (cdS s x) x 8 := by
 show (trI s s.ns.length s.ns.length 0).getD x br0 = _
 unfold trI
 rw [a2r _ _ _ _ hx, if_pos hx]
theorem a9n (ok : SOk s) (hc : ckS s = 0) {m x k : Nat} (hm : (gS s).Best (dsN s.ns s.l) m) (hx : x < s.ns.length) (hd : dsN s.ns s.l m x = k) :
  (k = 0 -> ((trS s).getD x br0).p = -1) /\ (0 < k -> ∃ y : Nat, y < s.ns.length /\ ((trS s).getD x br0).p = y /\ dsN s.ns s.l m y + 1 = k) := by
 obtain ⟨hN, hn, _, _⟩ := a16 ok hc
 have hG := b2z hN
 have hD := c2t hN
 have hlt := b88 hG hD hm.1 (y := x) hx
 have hnn : (gS s).n = s.ns.length := rfl
 have hnn2 : (a1v s.ns s.l).n = s.ns.length := rfl
 have hS := d3o hG hD hm (x := x) (k := k) (t := s.ns.length) hx (by omega) hd (by omega)
 rw [c43 s hx]
 rcases hS with ⟨rfl, hs, _⟩ | ⟨h0, hs, hf6, hst⟩
 ·refine ⟨fun _ => ?_, fun h => by omega⟩
  rw [b8w s _ x 8 fun i hi => by rw [b3e ok hc x i hi]; exact b3m hs i]
 ·refine ⟨fun h => by omega, fun _ => ?_⟩
  rcases a6c (gS s) (mS s) x with ⟨e, _⟩ | ⟨_, b, e1, e2, e3, ⟨a, e4⟩, _⟩
  ·rw [hs] at e; cases e
  have hgood := a7l hG hD (M := fun _ _ => none) (fun x p a d h => by cases h) s.ns.length x (b + 1) a _ e4
  rcases a39 hG hD hm (by rw [hd]; omega) hgood with h | ⟨_, y, q, hp, h1, h2⟩
  ·unfold ltM at h
   rw [show ((gS s).fol (mS s) x).mk6 = ((gS s).ow m).mk6 from hf6, a4m] at h; cases h
  obtain ⟨⟨_, hy⟩, _, _, _, hb⟩ := hG.pe_ok _ _ _ _ hp
  have hed := hD.edge m y q x (b + 1) hm.1 hb h1
  have hst' : ((gS s).fol (mS s) x).st + 1 = k := hst
  refine ⟨y, hy, ?_, by rw [hd] at hed; omega⟩
  rw [c2c s _ x b 8 e2 fun i hi => by rw [b3e ok hc x i hi]; exact b45 hs e1 i]
  have hpe : (if (a1h s.ns.length s.l x ((b + 1 : Nat) : Int)).2.2 = true then some ((a1h s.ns.length s.l x ((b + 1 : Nat) : Int)).1.toNat, (a1h s.ns.length s.l x ((b + 1 : Nat) : Int)).2.1.toNat) else none) = some (y, q) := hp
  have hck := hN.parts.1
  have hpF : a1h s.ns.length s.l x ((b + 1 : Nat) : Int) = a2d s.l x ((b + 1 : Nat) : Int) := a3a hck (a := (x : Int)) (by omega) (by omega) _
  by_cases ht : (a1h s.ns.length s.l x ((b + 1 : Nat) : Int)).2.2 = true
  ·rw [if_pos ht] at hpe
   simp only [Option.some.injEq, Prod.mk.injEq] at hpe
   obtain ⟨y', q', hf, _⟩ := a5g hck hx ht
   have hu := b2b s x ((b + 1 : Nat) : Int) s.l.length 0 (by omega) (by rw [List.drop_zero, <- hpF]; exact ht)
   rw [List.drop_zero, <- hpF, hf] at hu
   rw [hf] at hpe
   have : ((b : Int) + 1) = ((b + 1 : Nat) : Int) := by omega
   rw [this]
   show (upW s x ((b + 1 : Nat) : Int) s.l.length 0).p = _
   rw [hu]
   simp only at hpe ⊢
   omega
  ·rw [if_neg ht] at hpe; cases hpe
theorem b4z (t : List Br) (k x : Nat) : (clF t k x).getD 0 0 = (x : Int) := by cases k <;> simp [clF]
theorem c17 (ok : SOk s) (hc : ckS s = 0) {m : Nat} (hm : (gS s).Best (dsN s.ns s.l) m) : ∀ (k f x : Nat), k <= f -> x < s.ns.length -> dsN s.ns s.l m x = k -> (clF (trS s) f x).length = k + 1 /\ (clF (trS s) f x).getD k 0 = (m : Int)
 | 0, f, x, _, hx, hd => by
  obtain ⟨hN, hn, _, _⟩ := a16 ok hc
  have hp := (a9n ok hc hm hx hd).1 rfl
  have hmx : x = m := (c2t hN).zeq m x hm.1 hx (by rw [hd]; rfl)
  subst hmx
  cases f with
  | zero => exact ⟨rfl, rfl⟩
  | succ f =>
   rw [clF, if_neg (by rw [hp]; decide)]
   exact ⟨rfl, rfl⟩
 | k + 1, 0, x, h, _, _ => by omega
 | k + 1, f + 1, x, h, hx, hd => by
  obtain ⟨y, hy, hp, hdy⟩ := (a9n ok hc hm hx hd).2 (by omega)
  have ih := c17 ok hc hm k f y (by omega) hy (by omega)
  rw [clF, if_pos (by rw [hp]; omega), hp, Int.toNat_natCast]
  exact ⟨by rw [List.length_cons, ih.1], by rw [List.getD_cons_succ, ih.2]⟩
end
end Go.Vx.L58

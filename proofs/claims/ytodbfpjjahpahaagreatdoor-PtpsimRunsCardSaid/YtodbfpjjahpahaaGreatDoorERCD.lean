/- Lemmas of a small executor for the model, and contracts of functions, used for the law that this claim proves. No condition. -/
import Derived.Test.YtodbfpjjahpahaaGreatDoorEW3
import Derived.Test.YtodbfpjjahpahaaGreatDoorERCC
import Derived.Test.YtodbfpjjahpahaaGreatDoorEP17
set_option linter.unusedSimpArgs false
set_option linter.unusedVariables false
set_option maxRecDepth 100000
namespace Go.Vx.L58
open Go Go.Proofs Go.Vx.L58.PT
set_option maxHeartbeats 16000000 in
theorem b62 (s : Scn) (ok : SOk s) (hc : ckS s = 0) (v : Nat) (hv : v < s.ns.length) (hU : 2 <= (upL s v).length) (t : Int) (ht : 0 <= t /\ t <= 562949953421312) :
  Runs Tryz.prog 24 [scA s, .sl 8 1 0 s.ns.length none, .val (.int .i64 v), .val (.int .i64 t)] [gB s.l, ndB s.ns, osB s.os s.hd, osR s.os s.hd, iB false s.dn, iB false s.up, blB s.tr, iB false s.st, .arr false 3 1 s.ns.length (a2v (ptS s))]
   (Det (gpA (msF s (wyS s v) t)) [gB s.l, ndB s.ns, osB s.os s.hd, osR s.os s.hd, iB false s.dn, iB false s.up, blB s.tr, iB false s.st, .arr false 3 1 s.ns.length (a2v (ptS s))]) := by
 have hmx : maxLen = 9223372036854775807 := by decide
 have hs := d6f ok hc
 have hb := a8w ok hc hv
 have hMb := b1x ok hc hv
 have hpl : (ptS s).length = s.ns.length := b1c s _
 obtain ⟨_, ⟨L1, L2, L3, L4, L5⟩, _, _⟩ := a2l hc
 obtain ⟨_, hn24, _, _⟩ := a16 ok hc
 obtain ⟨n1, n2, n3⟩ := b2h s v
 obtain ⟨hM1, hMl, hMe, hNe, hD1, hD2, w1, w2, w3, w4⟩ := b1k s ok hc hv hU
 obtain ⟨o1, o2⟩ := c0v ok hc hv (by omega)
 have hro := b48 s ok hc v hv
 rw [b8b hU] at hro
 have hwa := d0e s (by omega) (upL s v) hU (by omega) hb.2
 rw [show wM s.tr (upL s v) = wyM s v from rfl] at hwa
 have hbA := b2m hs o1 (t0 := t) (by omega)
 have hbB := b2m hs o2 (t0 := a66 s (wyS s v).N (wyS s v).T t + 1000000) (by omega)
 have hdn := fun m hm hcm => c5i s hs o1 hD1 m hm hcm t (by omega) w1 w2
 have hup := fun m hm hcm => d2e s hs o2 hD2 m hm hcm (a66 s (wyS s v).N (wyS s v).T t + 1000000) (by omega) w3 w4
 simp only [List.length_reverse, n2, n3, hpl] at hdn hup
 unfold msF msD msL msK msB msA
 rw [hNe]
 clear hD1 hD2 w1 w2 w3 w4 o1 o2 hro
 have hro := b48 s ok hc v hv
 rw [b8b hU] at hro
 generalize a66 s (wyS s v).N.reverse (wyS s v).B.reverse (a66 s (wyS s v).N (wyS s v).T t + 1000000) = b at *
 generalize b1f s (wyS s v).N.reverse (wyS s v).B.reverse (a66 s (wyS s v).N (wyS s v).T t + 1000000) = q at *
 generalize b1f s (wyS s v).N (wyS s v).T t = p at *
 generalize a66 s (wyS s v).N (wyS s v).T t = a at *
 generalize msM (wyS s v) = M at *
 generalize wyM s v = W at *
 generalize upL s v = U at *
 generalize ptS s = P at *
 have hoM := hs.os M hMl
 have hoN := hs.os v (by omega)
 have r1 := a4g s M hMl hoM t (by omega)
 have r2 := a4g s v (by omega) hoN a (by omega)
 have r3 := a4g s M hMl hoM a (by omega)
 have r4 := a4g s M hMl hoM b (by omega)
 have r5 := a4g s v (by omega) hoN (a + 1000000) (by omega)
 have b1 := a4t hoM (t := t) (by omega)
 have b2 := a4t hoN (t := a) (by omega)
 have b3 := a4t hoM (t := a) (by omega)
 have b4 := a4t hoM (t := b) (by omega)
 have b5 := a4t hoN (t := a + 1000000) (by omega)
 generalize rdF (s.os.getD M os0) t = x1 at *
 generalize rdF (s.os.getD v os0) a = x2 at *
 generalize rdF (s.os.getD M os0) a = x3 at *
 generalize rdF (s.os.getD M os0) b = x4 at *
 generalize rdF (s.os.getD v os0) (a + 1000000) = x5 at *
 have hz : U.length - 1 - W + Int.toNat 0 = U.length - 1 - W := Nat.add_zero _
 have eM : U.reverse.getD (U.length - 1 - W + Int.toNat 0) 0 = (M : Int) := by rw [hz]; exact hMe
 have hzv : 0 + Int.toNat (v : Int) = v := by omega
 have wa : IntKind.i64.wrap (a + 1000000) = a + 1000000 := by rw [IntKind.wrap_i64]; omega
 have wd : IntKind.i64.wrap (x2 - x3) = x2 - x3 := by rw [IntKind.wrap_i64]; omega
 have s1 := b4e x1 (by omega)
 have s4 := b4e x4 (by omega)
 have hm1 : MgOK ⟨0, 0, (s.ns.getD (0 + Int.toNat (U.reverse.getD (U.length - 1 - W + Int.toNat 0) 0)) nd0).id, 0, a4k (3900000000000000000 + x1), a4o (3900000000000000000 + x1), 0, 0⟩ := ⟨by show (0 : Int) <= 0 /\ (0 : Int) <= 65535; omega, by show 0 <= a4k _ /\ a4k _ <= _; unfold a4k; omega, by show 0 <= a4o _ /\ a4o _ < _; unfold a4o; omega, by show (0 : Int) <= 0 /\ (0 : Int) <= 65535; omega, .inl ⟨.inl rfl, rfl, rfl⟩⟩
 have hm2 : MgOK ⟨1, 0, (s.ns.getD (0 + Int.toNat (v : Int)) nd0).id, 0, 0, 0, 0, 0⟩ := ⟨by show (0 : Int) <= 0 /\ (0 : Int) <= 65535; omega, by show (0 : Int) <= 0 /\ (0 : Int) <= 281474976710655; omega, by show (0 : Int) <= 0 /\ (0 : Int) < 1000000000; omega, by show (0 : Int) <= 0 /\ (0 : Int) <= 65535; omega, .inl ⟨.inr rfl, rfl, rfl⟩⟩
 have hm1' : MgOK (a84 ⟨0, 0, (s.ns.getD (0 + Int.toNat (U.reverse.getD (U.length - 1 - W + Int.toNat 0) 0)) nd0).id, 0, a4k (3900000000000000000 + x1), a4o (3900000000000000000 + x1), 0, 0⟩ p) := ⟨hm1.seq, hm1.sec, hm1.nano, hm1.rp, hm1.kind⟩
 have hm9 : MgOK ⟨9, 0 + q * 65536, (s.ns.getD (0 + Int.toNat (U.reverse.getD (U.length - 1 - W + Int.toNat 0) 0)) nd0).id, 0, a4k (3900000000000000000 + x4), a4o (3900000000000000000 + x4), (s.ns.getD (0 + Int.toNat (v : Int)) nd0).id, 1⟩ := ⟨by show (0 : Int) <= 0 /\ (0 : Int) <= 65535; omega, by show 0 <= a4k _ /\ a4k _ <= _; unfold a4k; omega, by show 0 <= a4o _ /\ a4o _ < _; unfold a4o; omega, by show (0 : Int) <= 1 /\ (1 : Int) <= 65535; omega, .inr rfl⟩
 have cs := hdn _ hm1 rfl
 have cr := hup _ hm2 rfl
 have z0 : (0 + p * 65536) / 65536 = p := by omega
 have z1 : (0 + q * 65536) / 65536 = q := by omega
 have ex1 := c68 rx0 _ hm1' rfl (by show 0 <= 0 + p * 65536 /\ 0 + p * 65536 <= _; omega) x1 (by omega) rfl rfl x2 (by omega)
 have ex2 := b7i { rx0 with co := true, ah := x2 - x1 - (0 + p * 65536) / 65536 } 0 x5 (by omega) (by omega)
 have ex3 := b4l { rx0 with co := true, ah := x2 - x1 - (0 + p * 65536) / 65536, pe := true, sq := 0, t3 := x5 } _ hm9 rfl rfl rfl rfl (by show 0 <= 0 + q * 65536 /\ 0 + q * 65536 <= _; omega) (by show _ <= x2 - x1 - (0 + p * 65536) / 65536 /\ x2 - x1 - (0 + p * 65536) / 65536 <= _; omega) (by show _ <= x5 /\ x5 <= _; omega) x4 (by omega) rfl rfl
 have hde : (if (x2 - x1 - (0 + p * 65536) / 65536 + x4 - x5 - (0 + q * 65536) / 65536) / 2 > 0 then (x2 - x1 - (0 + p * 65536) / 65536 + x4 - x5 - (0 + q * 65536) / 65536) / 2 else 0) = if (x2 - x1 - p + (x4 - x5 - q)) / 2 > 0 then (x2 - x1 - p + (x4 - x5 - q)) / 2 else 0 := by
  rw [z0, z1, show x2 - x1 - p + x4 - x5 - q = x2 - x1 - p + (x4 - x5 - q) by omega]
 generalize hdd : (if (x2 - x1 - p + (x4 - x5 - q)) / 2 > 0 then (x2 - x1 - p + (x4 - x5 - q)) / 2 else 0) = de at *
 have hdb : 0 <= de /\ de <= 27021597764222976 := by rw [<- hdd]; split <;> omega
 have ex3' := ex3
 have ex4 := b9q { rx0 with co := true, ah := x2 - x1 - (0 + p * 65536) / 65536, sq := 0, t3 := x5, kn := true, de := de } rfl (by show _ <= x2 - x1 - (0 + p * 65536) / 65536 /\ x2 - x1 - (0 + p * 65536) / 65536 <= _; omega) hdb
 have ex5 := b7e { rx0 with co := true, ah := x2 - x1 - (0 + p * 65536) / 65536, sq := 0, t3 := x5, kn := true, de := de } rfl
 have hnw := c91
 clear ex3'
 refine Runs.mk a0k Tryz.call24 Tryz.func24 rfl Tryz.ntmps24 Tryz.results24 rfl ?_
 (repeat' (first
  | refine SP ?_
  | refine a18 (by first | exact beq_self_eq_true _ | decide) ?_
  | refine a1d (by decide) ?_
  | refine a0q (by decide +kernel) ?_
  | refine a0c ?_
  | refine OB ?_
  | ((first | apply a0m [some 0, some 1, some 2, some 3, some 4, some 5, some 6, some 7, some 8] (hro)); exact AS; (any_goals (first | (apply a0s; rfl) )))
  | ((first | apply a0m [some 0, some 1, some 2, some 3, some 4, some 5, some 6, some 7, some 11] (hwa)); exact AS; (any_goals (first | (apply a0s; rfl) )))
  | ((first | apply a1a [some 0, some 1, some 2, some 3, some 4, some 5, some 6, some 7] (r1) | apply a0m [some 0, some 1, some 2, some 3, some 4, some 5, some 6, some 7] (r1)); exact AS; any_goals (apply a1j; rfl))
  | ((first | apply a1a [some 0, some 1, some 2, some 3, some 4, some 5, some 6, some 7] (r2) | apply a0m [some 0, some 1, some 2, some 3, some 4, some 5, some 6, some 7] (r2)); exact AS; (any_goals (first | (apply a0s; rfl) )))
  | ((first | apply a1a [some 0, some 1, some 2, some 3, some 4, some 5, some 6, some 7] (r3) | apply a0m [some 0, some 1, some 2, some 3, some 4, some 5, some 6, some 7] (r3)); exact AS; (any_goals (first | (apply a0s; rfl) )))
  | ((first | apply a1a [some 0, some 1, some 2, some 3, some 4, some 5, some 6, some 7] (r4) | apply a0m [some 0, some 1, some 2, some 3, some 4, some 5, some 6, some 7] (r4)); exact AS; any_goals (apply a1j; rfl))
  | ((first | apply a0m [some 0, some 1, some 2, some 3, some 4, some 5, some 6, some 7] (r5)); exact AS; (any_goals (first | (apply a0s; rfl) )))
  | ((first | apply a0t (s1) ); exact AS)
  | ((first | apply a0t (s4) ); exact AS)
  | refine CT [some 0, some 1, some 2, some 3, some 4, some 5, some 6, some 7, some 8, some 11] cs ?_
  | ((first | apply a0m [some 0, some 1, some 2, some 3, some 4, some 5, some 6, some 7, some 8, some 11] (cr)); exact AS; (any_goals (first | (apply a0s; rfl) )))
  | ((first | apply a0t (hnw) ); exact AS)
  | ((first | apply a0m [some 17] (ex1)); exact AS; (any_goals (first | (apply a0s; rfl) )))
  | ((first | apply a0m [some 17] (ex2)); exact AS; (any_goals (first | (apply a0s; rfl) )))
  | ((first | apply a0m [some 17] (ex3)); exact AS; (any_goals (first | (apply a0s; rfl) )))
  | refine CT [some 17] ex4 ?_
  | refine CT [some 17] ex5 ?_
  | exact RT [some 0, some 1, some 2, some 3, some 4, some 5, some 6, some 7, some 8]
  ))
end Go.Vx.L58
set_option maxRecDepth 100000
namespace Go.Vx.L58
open Go Go.Proofs Go.Vx.L58.PT
def rqL (s : Scn) (t : Int) (x : Nat) : List Gp := (List.range x).map (rnG s t)
theorem c5b (s : Scn) (t : Int) (x : Nat) : rqL s t (x + 1) = rqL s t x ++ [rnG s t x] := by
 unfold rqL; rw [List.range_succ, List.map_append]; rfl
theorem c92 (s : Scn) (t : Int) (x : Nat) : (rqL s t x).length = x := by simp [rqL]
theorem c9s (s : Scn) (t : Int) : rnL s t = rqL s t s.ns.length := by
 show rnI s t s.ns.length = _
 unfold rnI rqL
 refine List.map_congr_left fun i hi => ?_
 rw [if_pos (List.mem_range.1 hi)]
theorem c5f (s : Scn) (ok : SOk s) (hc : ckS s = 0) {v : Nat} (hv : v < s.ns.length) :
  ((ptS s).getD v 0 = 0 /\ wyM s v = 0) \/ ((ptS s).getD v 0 ≠ 0 /\ 2 <= (upL s v).length /\ wyM s v ≠ 0) := by
 have hpg : ∀ y, y < s.ns.length -> (ptS s).getD y 0 = ptM s y := b35 s s.ns.length
 have hb := a8w ok hc hv
 have hen := c2v ok hc hv
 have hhd : (upL s v).getD 0 0 = (v : Int) := b4z ..
 rw [hpg v hv]
 rcases c3j ok hc hv with ⟨e0, e1⟩ | ⟨⟨e0, e0'⟩, e1, y0, q0, _, e3, _⟩
 ·have hU1 : (upL s v).length = 1 := by
   rcases Nat.lt_or_ge 1 (upL s v).length with h | h
   ·have := (b3b (s := s) (v := v) (j := 0) (by omega)).1
    rw [hhd, Int.toNat_natCast, e1] at this
    exact absurd this (by decide)
   ·omega
  exact .inl ⟨e0, by have := b1x ok hc hv; omega⟩
 ·have hU2 : 2 <= (upL s v).length := by
   rcases Nat.lt_or_ge 1 (upL s v).length with h | h
   ·omega
   ·exfalso
    rw [show (upL s v).length - 1 = 0 by omega, hhd, Int.toNat_natCast, e3] at hen
    omega
  have := (b1k s ok hc hv hU2).1
  exact .inr ⟨by omega, hU2, by omega⟩
set_option maxHeartbeats 8000000 in
theorem d1i (s : Scn) (ok : SOk s) (t : Int) :
  (ckS s ≠ 0 -> Runs Tryz.prog 11 [scA s, .val (.int .i64 t)] (scB s) (Det (.tup [.val (.slice none 0 0), .val (.int .i64 (ckS s))]) (scB s))) /\
  (ckS s = 0 -> ¬ (0 <= t /\ t <= 562949953421312) -> Runs Tryz.prog 11 [scA s, .val (.int .i64 t)] (scB s) (Det (.tup [.val (.slice none 0 0), .val (.int .i64 3)]) (scB s))) /\
  (ckS s = 0 -> 0 <= t /\ t <= 562949953421312 -> Runs Tryz.prog 11 [scA s, .val (.int .i64 t)] (scB s) (Det (.tup [.sl 8 6 0 s.ns.length none, .val (.int .i64 0)]) [gB s.l, ndB s.ns, osB s.os s.hd, osR s.os s.hd, iB false s.dn, iB false s.up, blB s.tr, iB false s.st, .arr true 41 6 s.ns.length (a2e gpC gp0 (rnL s t))])) := by
 have hmx : maxLen = 9223372036854775807 := by decide
 have hn := ok.hn
 have hck := b1u s ok
 refine ⟨fun hc => ?_, fun hc hv => ?_, fun hc hv => ?_⟩
 ·generalize ckS s = c at *
  refine Runs.mk a0k Tryz.call11 Tryz.func11 rfl Tryz.ntmps11 Tryz.results11 rfl ?_
  (repeat' (first
  | refine SP ?_
  | (apply a0a <;> intro hb <;> (try simp only [nS, nT, eq_self, reduceCtorEq] at hb) <;> (try (exfalso; omega)))
  | refine a0c ?_
  | refine CT [some 0, some 1, some 2, some 3, some 4, some 5, some 6, some 7] hck ?_
  | exact RT [some 0, some 1, some 2, some 3, some 4, some 5, some 6, some 7]
  ))
 ·rw [hc] at hck
  refine Runs.mk a0k Tryz.call11 Tryz.func11 rfl Tryz.ntmps11 Tryz.results11 rfl ?_
  (repeat' (first
  | refine SP ?_
  | (apply a0a <;> intro hb <;> (try simp only [nS, nT, eq_self, reduceCtorEq] at hb) <;> (try (exfalso; omega)))
  | refine a0c ?_
  | refine CT [some 0, some 1, some 2, some 3, some 4, some 5, some 6, some 7] hck ?_
  | exact RT [some 0, some 1, some 2, some 3, some 4, some 5, some 6, some 7]
  ))
 have hpa := c0g s ok hc
 have hri := fun v (hv : v < s.ns.length) => c5f s ok hc hv
 have hme := fun v hv h => b62 s ok hc v hv h t ‹_›
 have hg : ∀ v, rnG s t v = if wyM s v = 0 then ⟨v, -1, 0, 0, 0, false⟩ else msF s (wyS s v) t := fun _ => rfl
 obtain ⟨_, hn24, _, _⟩ := a16 ok hc
 rw [hc] at hck
 have hl0 : rqL s t 0 = [] := rfl
 have hls := c5b s t
 have hll := c92 s t
 rw [c9s]
 generalize rqL s t = R at *
 generalize ptS s = P at *
 refine Runs.mk a0k Tryz.call11 Tryz.func11 rfl Tryz.ntmps11 Tryz.results11 rfl ?_
 (repeat' (first
  | refine SP ?_
  | (apply a0a <;> intro hb <;> (try simp only [nS, nT, eq_self, reduceCtorEq] at hb) <;> (try (exfalso; omega)))
  | refine a0c ?_
  | refine CT [some 0, some 1, some 2, some 3, some 4, some 5, some 6, some 7] hck ?_
  | refine CT [some 0, some 1, some 2, some 3, some 4, some 5, some 6, some 7] hpa ?_
  ))
 refine a0p (σ := Nat) (fun x => x <= s.ns.length) (fun x => ⟨[(1, .val (.int .i64 t)), (2, .ptr 8 8 0 0), (7, .sl 9 1 0 s.ns.length none), (8, .sl 10 6 0 x none), (9, .val (.int .i64 x))], [gB s.l, ndB s.ns, osB s.os s.hd, osR s.os s.hd, iB false s.dn, iB false s.up, blB s.tr, iB false s.st, .var (scV s), .arr true 3 1 s.ns.length (a2v P), .arr true 41 6 x (a2e gpC gp0 (R x))]⟩) (fun x => s.ns.length - x) (0) ?_ ?_ ?_
 ·omega
 ·rw [hl0]
  exact LT [some 0, some 1, some 2, some 3, some 4, some 5, some 6, some 7, some 8, some 9, none]
 rintro v hv'
 have hlv := hll v
 by_cases hvl : v < s.ns.length
 ·have hz : 0 + Int.toNat (v : Int) = v := by omega
  have hlsv := hls v
  rw [hg] at hlsv
  have hpz : P.getD (0 + Int.toNat (v : Int)) 0 = P.getD v 0 := by rw [hz]
  rcases hri v hvl with ⟨e1, e2⟩ | ⟨e1, e2, e3⟩
  ·rw [if_pos e2] at hlsv
   have hpv : P.getD (0 + Int.toNat (v : Int)) 0 = 0 := by rw [hpz]; exact e1
   (repeat' (first
  | refine SP ?_
  | (apply a0a <;> intro hb <;> (try simp only [nS, nT, eq_self, reduceCtorEq] at hb) <;> (try (exfalso; omega)))
  | refine a0c ?_
  | refine OB ?_
  | (apply a0i (Subtype.mk (v + 1) (by first | omega | (simp only; omega))); (focus (rw [hlsv]; apply a04 [some 0, some 1, some 2, some 3, some 4, some 5, some 6, some 7, some 8, some 9, some _]; (focus (iterate 2 (all_goals (repeat' (first | apply a3l (x := (⟨v, -1, 0, 0, 0, false⟩ : Gp)) | exact a1f rfl rfl rfl rfl | exact a17 rfl rfl rfl rfl | exact a0g | exact trivial | refine SP ?_ | refine And.intro ?_ ?_ | refine a0d ?_ ?_ | refine a09 ?_ | exact a0z rfl rfl | exact a0r rfl rfl rfl | exact a0b _ _ | exact a0w rfl | exact a0j rfl rfl rfl | ((first | refine a0f ?_ | show (_ : Nat) = _); first | with_reducible rfl | omega | ((try simp only [wS]); omega) | rfl) | refine a0o ?_ ?_ | exact a3c | with_reducible rfl ))))); any_goals (apply a0e; rfl))); (all_goals (try (first | (simp only; omega)))))
  ))
  ·rw [if_neg e3] at hlsv
   have hpv : P.getD (0 + Int.toNat (v : Int)) 0 ≠ 0 := by rw [hpz]; exact e1
   have hm := hme v hvl e2
   generalize msF s (wyS s v) t = G at *
   (repeat' (first
  | refine SP ?_
  | (apply a0a <;> intro hb <;> (try simp only [nS, nT, eq_self, reduceCtorEq] at hb) <;> (try (exfalso; omega)))
  | refine a0c ?_
  | refine OB ?_
  | refine CT [some 0, some 1, some 2, some 3, some 4, some 5, some 6, some 7, some 9] hm ?_
  | (apply a0i (Subtype.mk (v + 1) (by first | omega | (simp only; omega))); (focus (rw [hlsv]; apply a04 [some 0, some 1, some 2, some 3, some 4, some 5, some 6, some 7, some 8, some 9, some _]; exact AS; any_goals (apply a0e; rfl))); (all_goals (try (first | (simp only; omega)))))
  ))
 ·obtain rfl : v = s.ns.length := by omega
  (repeat' (first
  | refine SP ?_
  | (apply a0a <;> intro hb <;> (try simp only [nS, nT, eq_self, reduceCtorEq] at hb) <;> (try (exfalso; omega)))
  | refine a0c ?_
  | exact RT [some 0, some 1, some 2, some 3, some 4, some 5, some 6, some 7, some 10]
  ))
end Go.Vx.L58
set_option maxRecDepth 100000
namespace Go.Vx.L58
open Go Go.Proofs
set_option maxHeartbeats 8000000 in
theorem b9k (s : Scn) (ok : SOk s) (t : Int) : Runs Tryz.prog 3 [scA s, .val (.int .i64 t)] (scB s) (Det (.sb true) (scB s)) := by
 have hmx : maxLen = 9223372036854775807 := by decide
 have haw := c6l
 have hfw := d3m s
 cases hf0 : d1p s
 ·rw [hf0] at hfw
  refine Runs.mk a0k Tryz.call3 Tryz.func3 rfl Tryz.ntmps3 Tryz.results3 rfl ?_
  (repeat' (first
  | refine SP ?_
  | (apply a0a <;> intro hb <;> (try simp only [nS, nT, eq_self, reduceCtorEq] at hb) <;> (try (exfalso; omega)))
  | refine a0c ?_
  | refine CT [some 0, some 1, some 2, some 3, some 4, some 5, some 6, some 7] hfw ?_
  | ((first | apply a0t (haw) ); exact AS)
  | exact RT [some 0, some 1, some 2, some 3, some 4, some 5, some 6, some 7]
  ))
 rw [hf0] at hfw
 have c1 := b5u s ok
 have c2 := b1u s ok
 obtain ⟨a1, a2, a3⟩ := b7c s ok t
 obtain ⟨b1, b2, b3⟩ := d1i s ok t
 by_cases hcv : ckS s = 0 /\ 0 <= t /\ t <= 562949953421312
 rotate_left
 ·have ho : ∃ c : Int, Runs Tryz.prog 10 [scA s, .val (.int .i64 t)] (scB s) (Det (.tup [.val (.slice none 0 0), .val (.int .i64 c)]) (scB s)) /\ Runs Tryz.prog 11 [scA s, .val (.int .i64 t)] (scB s) (Det (.tup [.val (.slice none 0 0), .val (.int .i64 c)]) (scB s)) := by
   by_cases hc : ckS s = 0
   ·exact ⟨_, a2 hc (fun h => hcv ⟨hc, h⟩), b2 hc (fun h => hcv ⟨hc, h⟩)⟩
   ·exact ⟨_, a1 hc, b1 hc⟩
  obtain ⟨c, r1, r2⟩ := ho
  generalize ckS s = k at *
  refine Runs.mk a0k Tryz.call3 Tryz.func3 rfl Tryz.ntmps3 Tryz.results3 rfl ?_
  (repeat' (first
  | refine SP ?_
  | refine a1d (by decide) ?_
  | (apply a0a <;> intro hb <;> (try simp only [nS, nT, eq_self, reduceCtorEq] at hb) <;> (try (exfalso; omega)))
  | refine a0q (by decide +kernel) ?_
  | refine a0c ?_
  | refine CT [some 0, some 1, some 2, some 3, some 4, some 5, some 6, some 7] hfw ?_
  | refine CT [some 0, some 1, some 2, some 3, some 4, some 5, some 6, some 7] r1 ?_
  | refine CT [some 0, some 1, some 2, some 3, some 4, some 5, some 6, some 7] r2 ?_
  | ((first | apply a0m [some 0, some 1, some 2, some 3, some 4, some 5, some 6, some 7] (c1)); exact AS; (any_goals (first | (apply a0s; rfl) )))
  | ((first | apply a0m [some 0, some 1, some 2, some 3, some 4, some 5, some 6, some 7] (c2)); exact AS; (any_goals (first | (apply a0s; rfl) )))
  | (refine b6g 1 ?_)
  | ((first | apply a0t (haw) ); exact AS)
  | exact RT [some 0, some 1, some 2, some 3, some 4, some 5, some 6, some 7]
  ))
 obtain ⟨hc, hv⟩ := hcv
 have r1 := a3 hc hv
 have r2 := b3 hc hv
 rw [hc] at c1 c2
 obtain ⟨_, hn24, _, _⟩ := a16 ok hc
 have hll := c2m s t s.ns.length
 generalize rnL s t = G at *
 refine Runs.mk a0k Tryz.call3 Tryz.func3 rfl Tryz.ntmps3 Tryz.results3 rfl ?_
 (repeat' (first
  | refine SP ?_
  | (apply a0a <;> intro hb <;> (try simp only [nS, nT, eq_self, reduceCtorEq] at hb) <;> (try (exfalso; omega)))
  | refine a0q (by decide +kernel) ?_
  | refine a0c ?_
  | refine CT [some 0, some 1, some 2, some 3, some 4, some 5, some 6, some 7] hfw ?_
  | refine CT [some 0, some 1, some 2, some 3, some 4, some 5, some 6, some 7] r1 ?_
  | refine CT [some 0, some 1, some 2, some 3, some 4, some 5, some 6, some 7] r2 ?_
  | ((first | apply a0m [some 0, some 1, some 2, some 3, some 4, some 5, some 6, some 7] (c1)); exact AS; (any_goals (first | (apply a0s; rfl) )))
  | ((first | apply a0m [some 0, some 1, some 2, some 3, some 4, some 5, some 6, some 7] (c2)); exact AS; (any_goals (first | (apply a0s; rfl) )))
  ))
 refine a0p (σ := Nat) (fun x => x <= s.ns.length) (fun x => ⟨[(5, .sl 9 6 0 s.ns.length none), (7, .sl 10 6 0 s.ns.length none), (44, .val (.int .i64 s.ns.length)), (45, .val (.int .i64 x))], [gB s.l, ndB s.ns, osB s.os s.hd, osR s.os s.hd, iB false s.dn, iB false s.up, blB s.tr, iB false s.st, .var (scV s), .arr true 41 6 s.ns.length (a2e gpC gp0 G), .arr true 41 6 s.ns.length (a2e gpC gp0 G)]⟩) (fun x => s.ns.length - x) (0) ?_ ?_ ?_
 ·omega
 ·exact LT [some 0, some 1, some 2, some 3, some 4, some 5, some 6, some 7, some 8, some 9, some 10]
 rintro x hx
 by_cases hxl : x < s.ns.length
 ·(repeat' (first
  | refine SP ?_
  | (apply a0a <;> intro hb <;> (try simp only [nS, nT, eq_self, reduceCtorEq] at hb) <;> (try (exfalso; omega)))
  | refine a0q (by decide +kernel) ?_
  | refine a0c ?_
  | refine OB ?_
  | (apply a0i (Subtype.mk (x + 1) _); (focus (apply a04 [some 0, some 1, some 2, some 3, some 4, some 5, some 6, some 7, some 8, some 9, some 10]; (focus (iterate 2 (all_goals (repeat' (first | exact a1f rfl rfl rfl rfl | exact a17 rfl rfl rfl rfl | exact a0g | exact trivial | refine SP ?_ | refine And.intro ?_ ?_ | refine a0d ?_ ?_ | refine a09 ?_ | exact a0r rfl rfl rfl | exact a0b _ _ | exact a0j rfl rfl rfl | ((refine a0f ?_); first | with_reducible rfl | omega | ((try simp only [wS]); omega) | rfl) ))))); any_goals (apply a0e; rfl))); (all_goals (try (first | omega | (simp only; omega)))))
  ))
 ·(repeat' (first
  | refine SP ?_
  | (apply a0a <;> intro hb <;> (try simp only [nS, nT, eq_self, reduceCtorEq] at hb) <;> (try (exfalso; omega)))
  | ((first | apply a0t (haw) ); exact AS)
  | exact RT [some 0, some 1, some 2, some 3, some 4, some 5, some 6, some 7]
  ))
end Go.Vx.L58

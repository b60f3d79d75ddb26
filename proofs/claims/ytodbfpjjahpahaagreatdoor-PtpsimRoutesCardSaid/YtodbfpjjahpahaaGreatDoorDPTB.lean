/- Lemmas of a small executor for the model, and contracts of functions, used for the law that this claim proves. No condition. -/
import Derived.Test.YtodbfpjjahpahaaGreatDoorDW3
import Derived.Test.YtodbfpjjahpahaaGreatDoorDPTA
set_option linter.unusedSimpArgs false
set_option linter.unusedVariables false
set_option maxRecDepth 100000
namespace Go.Vx.L58.PT
open Go Go.Proofs Go.Vx.L58 Go.Vx.L58.MD
structure Ex7 where
 sy : Bool
 t1 : Int
 t2 : Int
 c1 : Int
 pe : Bool
 sq : Int
 t3 : Int
 kn : Bool
 de : Int
abbrev exL (x : Ex7) : List AV := [z64, .sb false, .val (.int .u64 0), z64, z64, z64, z64, .sb x.sy, .val (.int .i64 x.t1), .val (.int .i64 x.t2), .val (.int .i64 x.c1), .sb x.pe, .val (.int .i64 x.sq), .val (.int .i64 x.t3), .sb x.kn, .val (.int .i64 x.de)]
def x0 : Ex7 := ⟨false, 0, 0, 0, false, 0, 0, false, 0⟩
theorem new_ok : Runs Tryz.prog 46 [z64] [] (Det (.ptr 0 16 0 0) [.var (exL x0)]) := by
 refine Runs.mk tabOK Tryz.call46 Tryz.func46 rfl Tryz.ntmps46 Tryz.results46 rfl ?_
 (repeat' (first
  | (intro Q h; refine h ?_; clear h Q)
  | refine bcase_f (by decide) ?_
  | refine seq_go ?_
  | (apply ret_mk [some 0]; exact AS; any_goals (apply okIx_mk; rfl))
  ))
theorem common_ok (x : Ex7) (m : Mg) (h : MgOK m) : Runs Tryz.prog 90 [.ptr 0 16 0 0, mgA m, .val (.int .i64 m.k)] [.var (exL x)] (Det z64 [.var (exL x)]) := by
 have c := check_ok m h
 refine Runs.mk tabOK Tryz.call90 Tryz.func90 rfl Tryz.ntmps90 Tryz.results90 rfl ?_
 (repeat' (first
  | (intro Q h; refine h ?_; clear h Q)
  | refine bcase_f (by decide) ?_
  | (refine bcase_mk (fun hb => ?_) (fun hb => ?_) <;> (try simp only [nS, nT, eq_self, reduceCtorEq] at hb))
  | refine draw_mk (by decide +kernel) ?_
  | refine seq_go ?_
  | ((first | apply call0 (c) ); exact AS)
  | (apply ret_mk [some 0]; exact AS; any_goals (apply okIx_mk; rfl))
  ))
theorem sync1_ok (t : Int) (h0 : -4503599627370496 ≤ t) (h1 : t ≤ 4503599627370496) :
  Runs Tryz.prog 91 [.ptr 0 1 0 0, .ptr 1 1 0 0, .ptr 2 1 0 0] [.var [.val (.int .i64 t)], .var [.sb false], .var [.sb true]] (Det z64 [.var [.val (.int .i64 t)], .var [.sb false], .var [.sb true]]) := by
 have r := reading_t t h0 h1
 refine Runs.mk tabOK Tryz.call91 Tryz.func91 rfl Tryz.ntmps91 Tryz.results91 rfl ?_
 (repeat' (first
  | (intro Q h; refine h ?_; clear h Q)
  | refine bcase_t (by first | exact beq_self_eq_true _ | decide) ?_
  | refine bcase_f (by decide) ?_
  | refine seq_go ?_
  | ((first | apply call0 (r) ); exact AS)
  | (apply ret_mk [some 0, some 1, some 2]; exact AS; any_goals (apply okIx_mk; rfl))
  ))
theorem refuseS_ok (x : Ex7) (m : Mg) (h : MgOK m) (t : Int) (h0 : -4503599627370496 ≤ t) (h1 : t ≤ 4503599627370496) :
  Runs Tryz.prog 89 [.bfn (.func 90) [.ptr 0 16 0 0] [], mgA m, .val (.int .i64 m.k), .fn (.func 91) [.ptr 1 1 0 0, .ptr 2 1 0 0, .ptr 3 1 0 0]] [.var (exL x), .var [.val (.int .i64 t)], .var [.sb false], .var [.sb true]]
   (Det z64 [.var (exL x), .var [.val (.int .i64 t)], .var [.sb false], .var [.sb true]]) := by
 have c := common_ok x m h
 have s := sync1_ok t h0 h1
 refine Runs.mk tabOK Tryz.call89 Tryz.func89 rfl Tryz.ntmps89 Tryz.results89 rfl ?_
 (repeat' (first
  | (intro Q h; refine h ?_; clear h Q)
  | refine bcase_f (by decide) ?_
  | refine seq_go ?_
  | ((first | apply call1 (c) ); exact AS; (try (any_goals fail)))
  | ((first | apply call3 (s) ); exact AS; (try any_goals (apply nodup_mk; rfl)))
  | (apply ret_mk [some 0, some 1, some 2, some 3]; exact AS; any_goals (apply okIx_mk; rfl))
  ))
theorem complete_ok (x : Ex7) (a b c : Int) (h0 : 0 ≤ c) (h1 : c ≤ 9223372036854775807) :
  Runs Tryz.prog 93 [.ptr 0 16 0 0, .val (.int .i64 a), .val (.int .i64 b), .val (.int .i64 c)] [.var (exL x)] (Det (.tup []) [.var (exL { x with sy := true, t1 := a, t2 := b, c1 := c / 65536 })]) := by
 have n := nanos_ok c h0 h1
 refine Runs.mk tabOK Tryz.call93 Tryz.func93 rfl Tryz.ntmps93 Tryz.results93 rfl ?_
 (repeat' (first
  | (intro Q h; refine h ?_; clear h Q)
  | ((first | apply call0 (n) ); exact AS)
  | (apply ret_mk [some 0]; exact AS; any_goals (apply okIx_mk; rfl))
  ))
set_option maxHeartbeats 1000000 in
theorem sync_ok (x : Ex7) (m : Mg) (h : MgOK m) (hk : m.k = 0) (hc : 0 ≤ m.corr ∧ m.corr ≤ 9223372036854775807) (a : Int) (ha : -4503599627370496 ≤ a ∧ a ≤ 4503599627370496) (hs : m.sec = secF (3900000000000000000 + a)) (hn : m.nano = nanF (3900000000000000000 + a))
  (t : Int) (h0 : -4503599627370496 ≤ t) (h1 : t ≤ 4503599627370496) :
  Runs Tryz.prog 47 [.ptr 0 16 0 0, mgA m, .val (.int .i64 t)] [.var (exL x)] (Det z64 [.var (exL { x with sy := true, t1 := a, t2 := t, c1 := m.corr / 65536 })]) := by
 have r := refuseS_ok x m h t h0 h1
 have c := complete_ok x a t m.corr hc.1 hc.2
 have i := instant_ok a ha.1 ha.2
 rw [← hs, ← hn] at i
 rw [hk] at r
 have hkk : mgA m = .agg [.val (.int .i64 0), z64, z64, .val (.int .i64 m.corr), .val (.int .u64 m.clock), .val (.int .i64 1), .val (.int .i64 m.seq), z64, .val (.int .i64 m.sec), .val (.int .i64 m.nano), .val (.int .u64 m.rc), .val (.int .i64 m.rp), z64, z64, z64, z64, z64, z64, .val (.int .u64 0), z64, z64] := by rw [mgA, mgL, hk]
 rw [hkk] at r ⊢
 refine Runs.mk tabOK Tryz.call47 Tryz.func47 rfl Tryz.ntmps47 Tryz.results47 rfl ?_
 (repeat' (first
  | (intro Q h; refine h ?_; clear h Q)
  | refine bcase_f (by decide) ?_
  | refine seq_go ?_
  | ((first | apply call0 (i) ); exact AS)
  | ((first | apply call_detx [some 0, some 2, some 4, some 3] (r) ); exact AS; any_goals (apply nodup_mk; rfl))
  | ((first | apply call1 (c) ); exact AS; (try (any_goals fail)))
  | (apply ret_mk [some 0]; exact AS; any_goals (apply okIx_mk; rfl))
  ))
theorem request_ok (x : Ex7) (s t : Int) (h0 : 0 ≤ s ∧ s ≤ 65535) (h1 : -4503599627370496 ≤ t ∧ t ≤ 4503599627370496) :
  Runs Tryz.prog 48 [.ptr 0 16 0 0, .val (.int .i64 s), .val (.int .i64 t)] [.var (exL x)] (Det z64 [.var (exL { x with pe := true, sq := s, t3 := t })]) := by
 have r := reading_t t h1.1 h1.2
 refine Runs.mk tabOK Tryz.call48 Tryz.func48 rfl Tryz.ntmps48 Tryz.results48 rfl ?_
 (repeat' (first
  | (intro Q h; refine h ?_; clear h Q)
  | refine bcase_f (by decide) ?_
  | (refine bcase_mk (fun hb => ?_) (fun hb => ?_) <;> (try simp only [nS, nT, eq_self, reduceCtorEq] at hb))
  | refine seq_go ?_
  | ((first | apply call0 (r) ); exact AS)
  | (apply ret_mk [some 0]; (focus (iterate 2 (all_goals (repeat' (first | exact subL_nil | exact trivial | (intro Q h; refine h ?_; clear h Q) | refine And.intro ?_ ?_ | refine subL_cons ?_ ?_ | refine var_mk ?_ | exact sub_refl_val _ _ | exact sub_sb rfl | exact sub_sbl rfl | ((refine sub_int ?_); first | with_reducible rfl | omega | ((try simp only [wS]); omega) | rfl) | refine sub_sb ?_ ))))); any_goals (apply okIx_mk; rfl))
  | omega))
end Go.Vx.L58.PT
set_option maxRecDepth 100000
namespace Go.Vx.L58.PT
open Go Go.Proofs Go.Vx.L58 Go.Vx.L58.MD
abbrev bd (t : Int) : Prop := -4503599627370496 ≤ t ∧ t ≤ 4503599627370496
theorem lead_ok (a b c : Int) (h1 : bd a) (h2 : bd b) (h3 : 0 ≤ c ∧ c ≤ 4503599627370496) :
  Runs Tryz.prog 96 [.agg [.val (.int .i64 a), .val (.int .i64 b), .val (.int .i64 c)]] [] (Det (.val (.int .i64 (b - a - c))) []) := by
 obtain ⟨a1, a2⟩ := h1
 obtain ⟨b1, b2⟩ := h2
 refine Runs.mk tabOK Tryz.call96 Tryz.func96 rfl Tryz.ntmps96 Tryz.results96 rfl ?_
 (repeat' (first
  | (intro Q h; refine h ?_; clear h Q)
  | (apply ret_mk []; exact AS; any_goals (apply okIx_mk; rfl))
  ))
theorem resp1_ok (x : Ex7) (m : Mg) (hx : x.pe = true) (hs : x.sq = m.seq) :
  Runs Tryz.prog 94 [.ptr 0 1 0 0, .ptr 1 21 0 0, .ptr 2 1 0 0, .ptr 3 1 0 0, .ptr 4 1 0 0] [.var [.ptr 5 16 0 0], .var (mgL m), .var [.val (.int .u64 m.rc)], .var [.val (.int .i64 m.rp)], .var [.sb true], .var (exL x)]
   (Det z64 [.var [.ptr 5 16 0 0], .var (mgL m), .var [.val (.int .u64 m.rc)], .var [.val (.int .i64 m.rp)], .var [.sb true], .var (exL x)]) := by
 obtain ⟨sy, t1, t2, c1, pe, sq, t3, kn, de⟩ := x
 obtain ⟨k, corr, clock, seq, sec, nano, rc, rp⟩ := m
 simp only at hx hs
 subst hx; subst hs
 refine Runs.mk tabOK Tryz.call94 Tryz.func94 rfl Tryz.ntmps94 Tryz.results94 rfl ?_
 (repeat' (first
  | (intro Q h; refine h ?_; clear h Q)
  | refine bcase_f (by decide) ?_
  | (with_reducible refine bcase_true ?_)
  | (refine bcase_mk (fun hb => ?_) (fun hb => ?_) <;> (try simp only [nS, nT, eq_self, reduceCtorEq] at hb))
  | refine draw_mk (by decide +kernel) ?_
  | refine seq_go ?_
  | (apply ret_mk [some 0, some 1, some 2, some 3, some 4, some 5]; exact AS; any_goals (apply okIx_mk; rfl))
  ))
theorem refuseR_ok (x : Ex7) (m : Mg) (h : MgOK m) (hx : x.pe = true) (hs : x.sq = m.seq) :
  Runs Tryz.prog 89 [.bfn (.func 90) [.ptr 0 16 0 0] [], mgA m, .val (.int .i64 m.k), .fn (.func 94) [.ptr 1 1 0 0, .ptr 2 21 0 0, .ptr 3 1 0 0, .ptr 4 1 0 0, .ptr 5 1 0 0]]
   [.var (exL x), .var [.ptr 0 16 0 0], .var (mgL m), .var [.val (.int .u64 m.rc)], .var [.val (.int .i64 m.rp)], .var [.sb true]]
   (Det z64 [.var (exL x), .var [.ptr 0 16 0 0], .var (mgL m), .var [.val (.int .u64 m.rc)], .var [.val (.int .i64 m.rp)], .var [.sb true]]) := by
 have c := common_ok x m h
 have s := resp1_ok x m hx hs
 refine Runs.mk tabOK Tryz.call89 Tryz.func89 rfl Tryz.ntmps89 Tryz.results89 rfl ?_
 (repeat' (first
  | (intro Q h; refine h ?_; clear h Q)
  | refine bcase_f (by decide) ?_
  | refine seq_go ?_
  | ((first | apply call1 (c) ); exact AS; (try (any_goals fail)))
  | ((first | apply call_detx [some 1, some 2, some 3, some 4, some 5, some 0] (s) ); exact AS; any_goals (apply nodup_mk; rfl))
  | (apply ret_mk [some 0, some 1, some 2, some 3, some 4, some 5]; exact AS; any_goals (apply okIx_mk; rfl))
  ))
abbrev leadF (x : Ex7) : Int := x.t2 - x.t1 - x.c1
abbrev deF (x : Ex7) (t4 c : Int) : Int := if (leadF x + (t4 - x.t3 - c)) / 2 > 0 then (leadF x + (t4 - x.t3 - c)) / 2 else 0
set_option maxHeartbeats 1000000 in
theorem response_ok (x : Ex7) (m : Mg) (h : MgOK m) (hk : m.k = 9) (hx : x.pe = true) (hs : x.sq = m.seq) (hsy : x.sy = true) (hc : 0 ≤ m.corr ∧ m.corr ≤ 288230376151711744)
  (b1 : bd x.t1) (b2 : bd x.t2) (b3 : bd x.t3) (b4 : 0 ≤ x.c1 ∧ x.c1 ≤ 4503599627370496)
  (a : Int) (ha : bd a) (hsec : m.sec = secF (3900000000000000000 + a)) (hn : m.nano = nanF (3900000000000000000 + a)) :
  Runs Tryz.prog 49 [.ptr 0 16 0 0, mgA m, .val (.int .u64 m.rc), .val (.int .i64 m.rp)] [.var (exL x)] (Det z64 [.var (exL { x with pe := false, kn := true, de := deF x a (m.corr / 65536) })]) := by
 have r := refuseR_ok x m h hx hs
 have i := instant_ok a ha.1 ha.2
 have n := nanos_ok m.corr hc.1 (by omega)
 have ld := lead_ok x.t1 x.t2 x.c1 b1 b2 b4
 rw [← hsec, ← hn] at i
 rw [hk] at r
 have hkk : mgA m = .agg [.val (.int .i64 9), z64, z64, .val (.int .i64 m.corr), .val (.int .u64 m.clock), .val (.int .i64 1), .val (.int .i64 m.seq), z64, .val (.int .i64 m.sec), .val (.int .i64 m.nano), .val (.int .u64 m.rc), .val (.int .i64 m.rp), z64, z64, z64, z64, z64, z64, .val (.int .u64 0), z64, z64] := by rw [mgA, mgL, hk]
 have hkl : mgL m = [.val (.int .i64 9), z64, z64, .val (.int .i64 m.corr), .val (.int .u64 m.clock), .val (.int .i64 1), .val (.int .i64 m.seq), z64, .val (.int .i64 m.sec), .val (.int .i64 m.nano), .val (.int .u64 m.rc), .val (.int .i64 m.rp), z64, z64, z64, z64, z64, z64, .val (.int .u64 0), z64, z64] := by rw [mgL, hk]
 rw [hkk] at r ⊢
 rw [hkl] at r
 obtain ⟨sy, t1, t2, c1, pe, sq, t3, kn, de⟩ := x
 simp only at hx hs hsy b1 b2 b3 b4
 subst hx; subst hsy
 have w2 : (2:Int) ^ (min (Int.toNat 1) IntKind.i64.bits) = 2 := by decide +kernel
 refine Runs.mk tabOK Tryz.call49 Tryz.func49 rfl Tryz.ntmps49 Tryz.results49 rfl ?_
 (repeat' (first
  | (intro Q h; refine h ?_; clear h Q)
  | refine bcase_f (by decide) ?_
  | (with_reducible refine bcase_true ?_)
  | refine draw_mk (by decide +kernel) ?_
  | refine seq_go ?_
  | refine And.intro (by first | omega | ((try simp only [wS]); omega) | rfl | decide) ?_
  | ((first | apply call0 (i) ); exact AS)
  | ((first | apply call_detx [some 0, some 1, some 2, some 3, some 4, some 5] (r) ); exact AS; any_goals (apply nodup_mk; rfl))
  | ((first | apply calld0 (n)); exact AS)
  | ((first | apply calld0 (ld)); exact AS)
  | (apply ret_mk [some 0]; (focus (iterate 2 (all_goals (repeat' (first | exact subL_nil | exact trivial | (intro Q h; refine h ?_; clear h Q) | refine And.intro ?_ ?_ | refine subL_cons ?_ ?_ | refine var_mk ?_ | exact sub_refl_val _ _ | exact sub_sb rfl | exact sub_sbl rfl | refine sub_int ?_ ))))); any_goals (apply okIx_mk; rfl))
  ))
 all_goals
  have hfd : ∀ y : Int, y.fdiv 2 = y / 2 := fun y => Int.fdiv_eq_ediv_of_nonneg _ (by decide)
  simp only [deF, leadF]
  simp only [w2, hfd]
  simp only [IntKind.wrap_i64]
  split <;> split <;> omega
theorem offset_ok (x : Ex7) (hk : x.kn = true) (b1 : bd x.t1) (b2 : bd x.t2) (b4 : 0 ≤ x.c1 ∧ x.c1 ≤ 4503599627370496) (b5 : 0 ≤ x.de ∧ x.de ≤ 4503599627370496) :
  Runs Tryz.prog 50 [.ptr 0 16 0 0] [.var (exL x)] (Det (.tup [.val (.int .i64 (leadF x - x.de)), .sb true]) [.var (exL x)]) := by
 have ld := lead_ok x.t1 x.t2 x.c1 b1 b2 b4
 obtain ⟨sy, t1, t2, c1, pe, sq, t3, kn, de⟩ := x
 simp only at hk b1 b2 b4 b5
 subst hk
 refine Runs.mk tabOK Tryz.call50 Tryz.func50 rfl Tryz.ntmps50 Tryz.results50 rfl ?_
 (repeat' (first
  | (intro Q h; refine h ?_; clear h Q)
  | refine bcase_f (by decide) ?_
  | (refine bcase_mk (fun hb => ?_) (fun hb => ?_) <;> (try simp only [nS, nT, eq_self, reduceCtorEq] at hb))
  | refine draw_mk (by decide +kernel) ?_
  | refine seq_go ?_
  | ((first | apply calld0 (ld)); exact AS)
  | (apply ret_mk [some 0]; (focus (iterate 2 (all_goals (repeat' (first | exact subL_nil | exact trivial | (intro Q h; refine h ?_; clear h Q) | refine And.intro ?_ ?_ | refine subL_cons ?_ ?_ | refine sub_tup ?_ | refine var_mk ?_ | exact sub_refl_val _ _ | exact sub_sb rfl | exact sub_sbl rfl | refine sub_int ?_ ))))); any_goals (apply okIx_mk; rfl))
  ))
 all_goals (simp only [leadF]; simp only [IntKind.wrap_i64]; omega)
theorem delay_ok (x : Ex7) (hk : x.kn = true) : Runs Tryz.prog 51 [.ptr 0 16 0 0] [.var (exL x)] (Det (.tup [.val (.int .i64 x.de), .sb true]) [.var (exL x)]) := by
 obtain ⟨sy, t1, t2, c1, pe, sq, t3, kn, de⟩ := x
 simp only at hk
 subst hk
 refine Runs.mk tabOK Tryz.call51 Tryz.func51 rfl Tryz.ntmps51 Tryz.results51 rfl ?_
 (repeat' (first
  | (intro Q h; refine h ?_; clear h Q)
  | refine bcase_f (by decide) ?_
  | (refine bcase_mk (fun hb => ?_) (fun hb => ?_) <;> (try simp only [nS, nT, eq_self, reduceCtorEq] at hb))
  | refine seq_go ?_
  | (apply ret_mk [some 0]; exact AS; any_goals (apply okIx_mk; rfl))
  ))
end Go.Vx.L58.PT

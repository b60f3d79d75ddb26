/- Lemmas of a small executor for the model, and contracts of functions, used for the law that this claim proves. No condition. -/
import Derived.Test.YtodbfpjjahpahaaDoorEA14
import Derived.Test.YtodbfpjjahpahaaDoorT42b
set_option linter.unusedSimpArgs false
set_option linter.unusedVariables false
set_option maxRecDepth 100000
namespace Go.Vx.L42.S5
open Go Go.Proofs
theorem enE_or {n : Int} {l : List Ed} {ns : List Nd} (rd : Int) (ms : List Mm) (h : ckE n l ns = 0) : enE n l ns rd ms = 0 ∨ enE n l ns rd ms = 2 := by
  unfold enE
  rw [if_neg (by omega)]
  split
  · exact .inr rfl
  · split
    · exact .inl rfl
    · exact .inr rfl
set_option maxHeartbeats 4000000 in
theorem electSettles (n : Int) (l : List Ed) (cap : Option Nat) (hl : l.length ≤ maxLen) (ns : List Nd) (cap' : Option Nat) (hn : ns.length ≤ maxLen) (hwn : ∀ x, wfD (owD (ns.getD x nd0))) (rd : Int) (ms : List Mm) (cap2 : Option Nat) (hm : ms.length ≤ maxLen) (hwm : ∀ m ∈ ms, wfD m.set) (more : Int) (hmo : 0 ≤ more ∧ more ≤ 255) :
    Runs Tryd.prog 7 [aN n l cap ns cap', aBl rd ms cap2 2, .val (.int .u8 more)] [gB l, ndB ns, meB false ms] (Det (.sb true) [gB l, ndB ns, meB false ms]) := by
  have hmx : maxLen = 9223372036854775807 := by decide
  have haw := awake_ok
  by_cases hsm : ns.length ≤ 10 ∧ ms.length ≤ 300 ∧ rd ≤ 1048576
  rotate_left
  · refine Runs.mk tabOK Tryd.call7 Tryd.func7 rfl Tryd.ntmps7 Tryd.results7 rfl ?_
    (repeat' (first
    | (intro Q h; refine h ?_; clear h Q)
    | (refine bcase_mk (fun hb => ?_) (fun hb => ?_) <;> (try simp only [nS, nT, eq_self, reduceCtorEq] at hb) <;> (try (exfalso; (first | omega ); done)))
    | refine seq_go ?_
    | ((first | apply call0 (haw) ); (focus (iterate 2 (all_goals (repeat' (first | exact subL_nil ))))))
    | (apply ret_mk [some 0, some 1, some 2]; (focus (iterate 2 (all_goals (repeat' (first | exact row_same rfl rfl rfl | exact trivial | (intro Q h; refine h ?_; clear h Q) | refine And.intro ?_ ?_ | exact sub_sb rfl ))))); (any_goals (apply okIx_mk; rfl)))
    ))
  obtain ⟨s1, s2, s3⟩ := hsm
  have hex := expected_ok n l cap hl ns cap' hn hwn
  by_cases hc : ckE n l ns = 0
  rotate_left
  · have hex := hex.1 hc
    generalize ckE n l ns = c at *
    refine Runs.mk tabOK Tryd.call7 Tryd.func7 rfl Tryd.ntmps7 Tryd.results7 rfl ?_
    (repeat' (first
    | (intro Q h; refine h ?_; clear h Q)
    | (refine bcase_mk (fun hb => ?_) (fun hb => ?_) <;> (try simp only [nS, nT, eq_self, reduceCtorEq] at hb) <;> (try (exfalso; (first | omega ); done)))
    | refine seq_go ?_
    | ((first | apply call_detx [some 0, some 1] (hex) ); (focus ((iterate 2 (all_goals (repeat' (first | exact row_same rfl rfl rfl | exact subL_nil | exact trivial | (intro Q h; refine h ?_; clear h Q) | refine And.intro ?_ ?_ | refine subL_cons ?_ ?_ | refine sub_agg ?_ | exact sub_sl rfl rfl rfl | exact sub_refl_val _ _ )))))); (any_goals (first | (apply nodup_mk; rfl) )))
    | ((first | apply call0 (haw) ); (focus (iterate 2 (all_goals (repeat' (first | exact subL_nil ))))))
    | (apply ret_mk [some 0, some 1, some 2]; (focus (iterate 2 (all_goals (repeat' (first | exact row_same rfl rfl rfl | exact trivial | (intro Q h; refine h ?_; clear h Q) | refine And.intro ?_ ?_ | exact sub_sb rfl ))))); (any_goals (apply okIx_mk; rfl)))
    ))
  have hex := hex.2 hc
  have hse := settle_ok n l cap ns cap' (by omega)
  obtain ⟨_, hc2, _⟩ := ckE_zero hc
  subst hc2
  have hN : NOK ns l := ⟨hc, hwn⟩
  have hru := run_ok l cap hl ns cap' hn hwn ns.length rd ms cap2 hm hwm ((ns.length : Int) + 104 + more % 8)
  have htm : more.tmod 8 = more % 8 := Int.tmod_eq_emod_of_nonneg hmo.1
  have hw8 : IntKind.u8.wrap (more.tmod 8) = more % 8 := by rw [htm, IntKind.wrap_u8]; omega
  have hw64 : IntKind.i64.wrap (more % 8) = more % 8 := cwrap (by omega) (by omega)
  rcases enE_or rd ms hc with he | he
  rotate_left
  · have hr : runE ns.length l ns rd ms ((ns.length : Int) + 104 + more % 8) = 2 := by unfold runE; rw [he, if_pos (by decide)]
    have hru := hru.1 (by rw [hr]; decide)
    rw [hr] at hru
    generalize exL ns l ns.length = E at *
    refine Runs.mk tabOK Tryd.call7 Tryd.func7 rfl Tryd.ntmps7 Tryd.results7 rfl ?_
    (repeat' (first
    | (intro Q h; refine h ?_; clear h Q)
    | (refine bcase_mk (fun hb => ?_) (fun hb => ?_) <;> (try simp only [nS, nT, eq_self, reduceCtorEq] at hb) <;> (try (exfalso; (first | omega ); done)))
    | refine seq_go ?_
    | refine And.intro (by first | omega | ((try simp only [wS]); omega) | rfl | decide) ?_
    | ((first | apply call_detx [some 0, some 1] (hex) ); (focus ((iterate 2 (all_goals (repeat' (first | exact row_same rfl rfl rfl | exact subL_nil | exact trivial | (intro Q h; refine h ?_; clear h Q) | refine And.intro ?_ ?_ | refine subL_cons ?_ ?_ | refine sub_agg ?_ | exact sub_sl rfl rfl rfl | exact sub_refl_val _ _ )))))); (any_goals (first | (apply nodup_mk; rfl) )))
    | ((first | apply call_detx [some 0, some 1] (hse) ); (focus ((iterate 2 (all_goals (repeat' (first | exact row_same rfl rfl rfl | exact subL_nil | exact trivial | (intro Q h; refine h ?_; clear h Q) | refine And.intro ?_ ?_ | refine subL_cons ?_ ?_ | refine sub_agg ?_ | exact sub_sl rfl rfl rfl | exact sub_refl_val _ _ )))))); (any_goals (first | (apply nodup_mk; rfl) )))
    | ((first | apply call_detx [some 0, some 1, some 2] (hru) ); (focus ((iterate 2 (all_goals (repeat' (first | exact row_same rfl rfl rfl | exact subL_nil | exact trivial | (intro Q h; refine h ?_; clear h Q) | refine And.intro ?_ ?_ | refine subL_cons ?_ ?_ | refine sub_agg ?_ | exact sub_sl rfl rfl rfl | exact sub_refl_val _ _ | ((first | refine sub_int ?_ ); first | with_reducible rfl | omega | ((try simp only [wS]); omega) | rfl) )))))); (any_goals (first | (apply nodup_mk; rfl) )))
    | ((first | apply call0 (haw) ); (focus (iterate 2 (all_goals (repeat' (first | exact subL_nil ))))))
    | (apply ret_mk [some 0, some 1, some 2]; (focus (iterate 2 (all_goals (repeat' (first | exact row_same rfl rfl rfl | exact trivial | (intro Q h; refine h ?_; clear h Q) | refine And.intro ?_ ?_ | exact sub_sb rfl ))))); (any_goals (apply okIx_mk; rfl)))
    ))
  · obtain ⟨_, hr1, _, hoL⟩ := enE_zero he
    have hr : runE ns.length l ns rd ms ((ns.length : Int) + 104 + more % 8) = 0 := by unfold runE; rw [he, if_neg (by decide), if_neg (by omega)]
    have hru := hru.2 hr
    have hS0 := sok_ent hoL hwm
    have hV := vs_run hN hS0 ((ns.length : Int) + 104 + more % 8).toNat
    have hrs := rsL_settles hN (vs_of hS0) (t := ((ns.length : Int) + 104 + more % 8).toNat) (by omega) (s := entS (lxA (rsN ns l) ((netP ns l).run (memOf (entS ms)) ((ns.length : Int) + 104 + more % 8).toNat) ns.length)) (memOf_lx hN hV)
    have hLl := lxA_len (ns := ns) (l := l) ((netP ns l).run (memOf (entS ms)) ((ns.length : Int) + 104 + more % 8).toNat) ns.length
    have hre := result_ok ns.length l cap hl ns cap' hn hwn (rd + ((ns.length : Int) + 104 + more % 8)) _ none (by omega) (lx_wf hV) (enE_run hN hV (by omega))
    rw [hrs] at hre
    have hsa := same_ok (exL ns l ns.length) none none (by rw [exL_len]; omega)
    rw [exL_len] at hsa
    have hEl := exL_len ns l ns.length
    generalize hM : lxA (rsN ns l) ((netP ns l).run (memOf (entS ms)) ((ns.length : Int) + 104 + more % 8).toNat) ns.length = L at *
    have hM' : lsX ns.length (prR ns.length l ns.length) ((netP ns l).run (memOf (entS ms)) ((ns.length : Int) + 104 + more % 8).toNat) = L := hM
    rw [hM'] at hru
    generalize exL ns l ns.length = E at *
    refine Runs.mk tabOK Tryd.call7 Tryd.func7 rfl Tryd.ntmps7 Tryd.results7 rfl ?_
    (repeat' (first
    | (intro Q h; refine h ?_; clear h Q)
    | (with_reducible refine bcase_true ?_)
    | (refine bcase_mk (fun hb => ?_) (fun hb => ?_) <;> (try simp only [nS, nT, eq_self, reduceCtorEq] at hb) <;> (try (exfalso; (first | omega ); done)))
    | refine seq_go ?_
    | refine And.intro (by first | omega | ((try simp only [wS]); omega) | rfl | decide) ?_
    | ((first | apply call_detx [some 0, some 1] (hex) ); (focus ((iterate 2 (all_goals (repeat' (first | exact row_same rfl rfl rfl | exact subL_nil | exact trivial | (intro Q h; refine h ?_; clear h Q) | refine And.intro ?_ ?_ | refine subL_cons ?_ ?_ | refine sub_agg ?_ | exact sub_sl rfl rfl rfl | exact sub_refl_val _ _ )))))); (any_goals (first | (apply nodup_mk; rfl) )))
    | ((first | apply call_detx [some 0, some 1] (hse) ); (focus ((iterate 2 (all_goals (repeat' (first | exact row_same rfl rfl rfl | exact subL_nil | exact trivial | (intro Q h; refine h ?_; clear h Q) | refine And.intro ?_ ?_ | refine subL_cons ?_ ?_ | refine sub_agg ?_ | exact sub_sl rfl rfl rfl | exact sub_refl_val _ _ )))))); (any_goals (first | (apply nodup_mk; rfl) )))
    | ((first | apply call_detx [some 0, some 1, some 2] (hru) ); (focus ((iterate 2 (all_goals (repeat' (first | exact row_same rfl rfl rfl | exact subL_nil | exact trivial | (intro Q h; refine h ?_; clear h Q) | refine And.intro ?_ ?_ | refine subL_cons ?_ ?_ | refine sub_agg ?_ | exact sub_sl rfl rfl rfl | exact sub_refl_val _ _ | ((first | refine sub_int ?_ ); first | with_reducible rfl | omega | ((try simp only [wS]); omega) | rfl) )))))); (any_goals (first | (apply nodup_mk; rfl) )))
    | ((first | apply call_detx [some 0, some 1, some 6] (hre) ); (focus ((iterate 2 (all_goals (repeat' (first | exact row_same rfl rfl rfl | exact subL_nil | exact trivial | (intro Q h; refine h ?_; clear h Q) | refine And.intro ?_ ?_ | refine subL_cons ?_ ?_ | refine sub_agg ?_ | exact sub_sl rfl rfl rfl | exact sub_refl_val _ _ | exact row_ren rfl rfl rfl )))))); (any_goals (first | (apply nodup_mk; rfl) )))
    | ((first | apply call_detx [some 8, some 5] (hsa) ); (focus ((iterate 2 (all_goals (repeat' (first | exact subL_nil | exact trivial | (intro Q h; refine h ?_; clear h Q) | refine And.intro ?_ ?_ | refine subL_cons ?_ ?_ | exact sub_sl rfl rfl rfl | exact row_ren rfl rfl rfl )))))); (any_goals (first | (apply nodup_mk; rfl) )))
    | ((first | apply call0 (haw) ); (focus (iterate 2 (all_goals (repeat' (first | exact subL_nil ))))))
    | (apply ret_mk [some 0, some 1, some 2]; (focus (iterate 2 (all_goals (repeat' (first | exact row_same rfl rfl rfl | exact trivial | (intro Q h; refine h ?_; clear h Q) | refine And.intro ?_ ?_ | exact sub_sb rfl ))))); (any_goals (apply okIx_mk; rfl)))
    ))
end Go.Vx.L42.S5

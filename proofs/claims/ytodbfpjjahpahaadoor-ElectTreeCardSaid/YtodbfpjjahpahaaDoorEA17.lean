/- Lemmas of a small executor for the model, and contracts of functions, used for the law that this claim proves. No condition. -/
import Derived.Test.YtodbfpjjahpahaaDoorEA14
set_option linter.unusedSimpArgs false
set_option linter.unusedVariables false
set_option maxRecDepth 100000
namespace Go.Vx.L42
open Go Go.Proofs
theorem rsL_get (ns : List Nd) (s : MS) : ∀ x i, i < x → (rsL ns s x).getD i ch0 = rsC ns s i
  | 0, i, h => absurd h (Nat.not_lt_zero _)
  | x + 1, i, h => by
    have hl := rsL_len ns s x
    rw [rsL, List.getD_eq_getElem?_getD]
    by_cases hx : i < x
    · rw [List.getElem?_append_left (by omega), ← List.getD_eq_getElem?_getD, rsL_get ns s x i hx]
    · obtain rfl : i = x := by omega
      rw [List.getElem?_append_right (by omega), hl, Nat.sub_self]; rfl
theorem enE_or {n : Int} {l : List Ed} {ns : List Nd} (rd : Int) (ms : List Mm) (h : ckE n l ns = 0) : enE n l ns rd ms = 0 ∨ enE n l ns rd ms = 2 := by
  unfold enE
  rw [if_neg (by omega)]
  split
  · exact .inr rfl
  · split
    · exact .inl rfl
    · exact .inr rfl
set_option maxHeartbeats 4000000 in
theorem electTree (n : Int) (l : List Ed) (cap : Option Nat) (hl : l.length ≤ maxLen) (ns : List Nd) (cap' : Option Nat) (hn : ns.length ≤ maxLen) (hwn : ∀ x, wfD (owD (ns.getD x nd0))) (rd : Int) (ms : List Mm) (cap2 : Option Nat) (hm : ms.length ≤ maxLen) (hwm : ∀ m ∈ ms, wfD m.set) :
    Runs Tryd.prog 4 [aN n l cap ns cap', aBl rd ms cap2 2] [gB l, ndB ns, meB false ms] (Det (.sb true) [gB l, ndB ns, meB false ms]) := by
  have hmx : maxLen = 9223372036854775807 := by decide
  have haw := awake_ok
  by_cases hsm : ns.length ≤ 10 ∧ ms.length ≤ 300 ∧ rd ≤ 1048576
  rotate_left
  · refine Runs.mk tabOK Tryd.call4 Tryd.func4 rfl Tryd.ntmps4 Tryd.results4 rfl ?_
    (repeat' (first
    | (intro Q h; refine h ?_; clear h Q)
    | (refine bcase_mk (fun hb => ?_) (fun hb => ?_) <;> (try simp only [nS, nT, eq_self, reduceCtorEq] at hb) <;> (try (exfalso; (first | omega ); done)))
    | refine seq_go ?_
    | ((first | apply call0 (haw) ); (focus (iterate 2 (all_goals (repeat' (first | exact subL_nil ))))))
    | (apply ret_mk [some 0, some 1, some 2]; (focus (iterate 2 (all_goals (repeat' (first | exact row_same rfl rfl rfl | exact trivial | (intro Q h; refine h ?_; clear h Q) | refine And.intro ?_ ?_ | exact sub_sb rfl ))))); (any_goals (apply okIx_mk; rfl)))
    ))
  obtain ⟨s1, s2, s3⟩ := hsm
  have hck := echeck_ok n l cap hl ns cap' hn
  by_cases hc : ckE n l ns = 0
  rotate_left
  · generalize ckE n l ns = c at *
    refine Runs.mk tabOK Tryd.call4 Tryd.func4 rfl Tryd.ntmps4 Tryd.results4 rfl ?_
    (repeat' (first
    | (intro Q h; refine h ?_; clear h Q)
    | (refine bcase_mk (fun hb => ?_) (fun hb => ?_) <;> (try simp only [nS, nT, eq_self, reduceCtorEq] at hb) <;> (try (exfalso; (first | omega ); done)))
    | refine seq_go ?_
    | ((first | apply call_detx [some 0, some 1] (hck) ); (focus ((iterate 2 (all_goals (repeat' (first | exact row_same rfl rfl rfl | exact subL_nil | exact trivial | (intro Q h; refine h ?_; clear h Q) | refine And.intro ?_ ?_ | refine subL_cons ?_ ?_ | refine sub_agg ?_ | exact sub_sl rfl rfl rfl | exact sub_refl_val _ _ )))))); (any_goals (first | (apply nodup_mk; rfl) )))
    | ((first | apply call0 (haw) ); (focus (iterate 2 (all_goals (repeat' (first | exact subL_nil ))))))
    | (apply ret_mk [some 0, some 1, some 2]; (focus (iterate 2 (all_goals (repeat' (first | exact row_same rfl rfl rfl | exact trivial | (intro Q h; refine h ?_; clear h Q) | refine And.intro ?_ ?_ | exact sub_sb rfl ))))); (any_goals (apply okIx_mk; rfl)))
    ))
  rw [hc] at hck
  have hse := settle_ok n l cap ns cap' (by omega)
  obtain ⟨_, hc2, _⟩ := ckE_zero hc
  subst hc2
  have hN : NOK ns l := ⟨hc, hwn⟩
  have hru := run_ok l cap hl ns cap' hn hwn ns.length rd ms cap2 hm hwm ((ns.length : Int) + 104)
  rcases enE_or rd ms hc with he | he
  rotate_left
  · have hr : runE ns.length l ns rd ms ((ns.length : Int) + 104) = 2 := by unfold runE; rw [he, if_pos (by decide)]
    have hru := hru.1 (by rw [hr]; decide)
    rw [hr] at hru
    refine Runs.mk tabOK Tryd.call4 Tryd.func4 rfl Tryd.ntmps4 Tryd.results4 rfl ?_
    (repeat' (first
    | (intro Q h; refine h ?_; clear h Q)
    | (refine bcase_mk (fun hb => ?_) (fun hb => ?_) <;> (try simp only [nS, nT, eq_self, reduceCtorEq] at hb) <;> (try (exfalso; (first | omega ); done)))
    | refine seq_go ?_
    | ((first | apply call_detx [some 0, some 1] (hck) ); (focus ((iterate 2 (all_goals (repeat' (first | exact row_same rfl rfl rfl | exact subL_nil | exact trivial | (intro Q h; refine h ?_; clear h Q) | refine And.intro ?_ ?_ | refine subL_cons ?_ ?_ | refine sub_agg ?_ | exact sub_sl rfl rfl rfl | exact sub_refl_val _ _ )))))); (any_goals (first | (apply nodup_mk; rfl) )))
    | ((first | apply call_detx [some 0, some 1] (hse) ); (focus ((iterate 2 (all_goals (repeat' (first | exact row_same rfl rfl rfl | exact subL_nil | exact trivial | (intro Q h; refine h ?_; clear h Q) | refine And.intro ?_ ?_ | refine subL_cons ?_ ?_ | refine sub_agg ?_ | exact sub_sl rfl rfl rfl | exact sub_refl_val _ _ )))))); (any_goals (first | (apply nodup_mk; rfl) )))
    | ((first | apply call_detx [some 0, some 1, some 2] (hru) ); (focus ((iterate 2 (all_goals (repeat' (first | exact row_same rfl rfl rfl | exact subL_nil | exact trivial | (intro Q h; refine h ?_; clear h Q) | refine And.intro ?_ ?_ | refine subL_cons ?_ ?_ | refine sub_agg ?_ | exact sub_sl rfl rfl rfl | exact sub_refl_val _ _ )))))); (any_goals (first | (apply nodup_mk; rfl) )))
    | ((first | apply call0 (haw) ); (focus (iterate 2 (all_goals (repeat' (first | exact subL_nil ))))))
    | (apply ret_mk [some 0, some 1, some 2]; (focus (iterate 2 (all_goals (repeat' (first | exact row_same rfl rfl rfl | exact trivial | (intro Q h; refine h ?_; clear h Q) | refine And.intro ?_ ?_ | exact sub_sb rfl ))))); (any_goals (apply okIx_mk; rfl)))
    ))
  obtain ⟨_, hr1, _, hoL⟩ := enE_zero he
  have hr : runE ns.length l ns rd ms ((ns.length : Int) + 104) = 0 := by unfold runE; rw [he, if_neg (by decide), if_neg (by omega)]
  have hru := hru.2 hr
  have hS0 := sok_ent hoL hwm
  have hV := vs_run hN hS0 ((ns.length : Int) + 104).toNat
  have hs : memOf (entS (lxA (rsN ns l) ((netP ns l).run (memOf (entS ms)) ((ns.length : Int) + 104).toNat) ns.length)) = (netP ns l).run (memOf (entS ms)) ((ns.length : Int) + 104).toNat := memOf_lx hN hV
  have hLl := lxA_len (ns := ns) (l := l) ((netP ns l).run (memOf (entS ms)) ((ns.length : Int) + 104).toNat) ns.length
  have hwf := lx_wf hV
  have hE := enE_run hN hV (rd := rd + ((ns.length : Int) + 104)) (by omega)
  have hre := result_ok ns.length l cap hl ns cap' hn hwn (rd + ((ns.length : Int) + 104)) _ none (by omega) hwf hE
  have hco := codes_ok ns.length l cap hl ns cap' hn hwn (rd + ((ns.length : Int) + 104)) _ none (by omega) hwf hE
  have hcs := fun x hx => cod_settles hN (vs_of hS0) (t := ((ns.length : Int) + 104).toNat) (by omega) hs (x := x) hx
  generalize hM : lxA (rsN ns l) ((netP ns l).run (memOf (entS ms)) ((ns.length : Int) + 104).toNat) ns.length = L at *
  have hM' : lsX ns.length (prR ns.length l ns.length) ((netP ns l).run (memOf (entS ms)) ((ns.length : Int) + 104).toNat) = L := hM
  rw [hM'] at hru
  have hrl := rsL_len ns (entS L) ns.length
  have hrg := rsL_get ns (entS L) ns.length
  generalize rsL ns (entS L) ns.length = R at *
  have hcl : ∀ x, (codL (owD (ns.getD x nd0)) (hrX (entS L) x 8)).length = 8 := fun x => by rw [codP_len]; exact hrX_len _ _ _
  generalize codL = CL at *
  have hsl := fun x => slaves_ok (CL (owD (ns.getD x nd0)) (hrX (entS L) x 8)) none (by rw [hcl]; omega)
  refine Runs.mk tabOK Tryd.call4 Tryd.func4 rfl Tryd.ntmps4 Tryd.results4 rfl ?_
  (repeat' (first
    | (intro Q h; refine h ?_; clear h Q)
    | (refine bcase_mk (fun hb => ?_) (fun hb => ?_) <;> (try simp only [nS, nT, eq_self, reduceCtorEq] at hb) <;> (try (exfalso; (first | omega ); done)))
    | refine seq_go ?_
    | ((first | apply call_detx [some 0, some 1] (hck) ); (focus ((iterate 2 (all_goals (repeat' (first | exact row_same rfl rfl rfl | exact subL_nil | exact trivial | (intro Q h; refine h ?_; clear h Q) | refine And.intro ?_ ?_ | refine subL_cons ?_ ?_ | refine sub_agg ?_ | exact sub_sl rfl rfl rfl | exact sub_refl_val _ _ )))))); (any_goals (first | (apply nodup_mk; rfl) )))
    | ((first | apply call_detx [some 0, some 1] (hse) ); (focus ((iterate 2 (all_goals (repeat' (first | exact row_same rfl rfl rfl | exact subL_nil | exact trivial | (intro Q h; refine h ?_; clear h Q) | refine And.intro ?_ ?_ | refine subL_cons ?_ ?_ | refine sub_agg ?_ | exact sub_sl rfl rfl rfl | exact sub_refl_val _ _ )))))); (any_goals (first | (apply nodup_mk; rfl) )))
    | ((first | apply call_detx [some 0, some 1, some 2] (hru) ); (focus ((iterate 2 (all_goals (repeat' (first | exact row_same rfl rfl rfl | exact subL_nil | exact trivial | (intro Q h; refine h ?_; clear h Q) | refine And.intro ?_ ?_ | refine subL_cons ?_ ?_ | refine sub_agg ?_ | exact sub_sl rfl rfl rfl | exact sub_refl_val _ _ )))))); (any_goals (first | (apply nodup_mk; rfl) )))
    | ((first | apply call_detx [some 0, some 1, some 5] (hre) ); (focus ((iterate 2 (all_goals (repeat' (first | exact row_same rfl rfl rfl | exact subL_nil | exact trivial | (intro Q h; refine h ?_; clear h Q) | refine And.intro ?_ ?_ | refine subL_cons ?_ ?_ | refine sub_agg ?_ | exact sub_sl rfl rfl rfl | exact sub_refl_val _ _ | exact row_ren rfl rfl rfl )))))); (any_goals (first | (apply nodup_mk; rfl) )))
    ))
  refine loop_inv (σ := Nat) (fun x => x ≤ ns.length) (fun x => ⟨[(2, .ptr 3 3 0 0), (6, .ptr 6 2 0 0), (8, .sl 7 2 0 ns.length none), (73, .val (.int .i64 ns.length)), (74, .val (.int .i64 x))], [gB l, ndB ns, meB false ms, .var [.val (.int .i64 ns.length), .sl 0 4 0 l.length cap, .sl 1 6 0 ns.length cap'], .var [.dead, .dead], meB true L, .var [.val (.int .i64 (rd + ((ns.length : Int) + 104))), .sl 5 14 0 L.length none], chB true R]⟩) (fun x => ns.length - x) (0) ?_ ?_ ?_
  · omega
  · (apply le_mk [some 0, some 1, some 2, some 3, some 4, some 5, some 6, some 7]; (focus (iterate 2 (all_goals (repeat' (first | exact sub_dead | exact row_same rfl rfl rfl | exact subL_nil | exact trivial | (intro Q h; refine h ?_; clear h Q) | refine And.intro ?_ ?_ | refine subL_cons ?_ ?_ | refine var_mk ?_ | exact sub_ptr rfl rfl | exact sub_sl rfl rfl rfl | exact sub_refl_val _ _ | exact row_ren rfl rfl rfl ))))); (any_goals (apply okIx_mk; rfl)))
  rintro x hx
  by_cases hxl : x < ns.length
  · have hz : 0 + Int.toNat (x : Int) = x := by omega
    have hco := hco x hxl
    have hcs := hcs x hxl
    have hsl := hsl x
    have hC8 := hcl x
    rw [hcl] at hsl
    have hg : (rsC ns (entS L) x).m = (R.getD (0 + Int.toNat (x : Int)) ch0).m := by rw [hz, hrg x hxl]
    rw [hg] at hcs
    generalize CL (owD (ns.getD x nd0)) (hrX (entS L) x 8) = C at *
    by_cases hmx : (R.getD (0 + Int.toNat (x : Int)) ch0).m = x
    · rw [if_pos hmx] at hcs
      rw [hcs] at hsl
      (repeat' (first
    | (intro Q h; refine h ?_; clear h Q)
    | (refine bcase_mk (fun hb => ?_) (fun hb => ?_) <;> (try simp only [nS, nT, eq_self, reduceCtorEq] at hb) <;> (try (exfalso; (first | omega ); done)))
    | refine seq_go ?_
    | refine And.intro (by first | omega | ((try simp only [wS]); omega) | rfl | decide) ?_
    | ((first | apply call_detx [some 0, some 1, some 5] (hco) ); (focus ((iterate 2 (all_goals (repeat' (first | exact row_same rfl rfl rfl | exact subL_nil | exact trivial | (intro Q h; refine h ?_; clear h Q) | refine And.intro ?_ ?_ | refine subL_cons ?_ ?_ | refine sub_agg ?_ | exact sub_sl rfl rfl rfl | exact sub_refl_val _ _ )))))); (any_goals (first | (apply nodup_mk; rfl) )))
    | ((first | apply call_detx [some 8] (hsl) ); (focus ((iterate 2 (all_goals (repeat' (first | exact subL_nil | exact trivial | (intro Q h; refine h ?_; clear h Q) | refine And.intro ?_ ?_ | refine subL_cons ?_ ?_ | exact sub_sl rfl rfl rfl | exact row_ren rfl rfl rfl )))))); (any_goals (first | (apply nodup_mk; rfl) )))
    | (apply next_sub (Subtype.mk (x + 1) _); (focus (apply le_mk [some 0, some 1, some 2, some 3, some 4, some 5, some 6, some 7]; (focus (iterate 2 (all_goals (repeat' (first | exact sub_dead | exact row_same rfl rfl rfl | exact subL_nil | exact trivial | (intro Q h; refine h ?_; clear h Q) | refine And.intro ?_ ?_ | refine subL_cons ?_ ?_ | refine var_mk ?_ | exact sub_ptr rfl rfl | exact sub_sl rfl rfl rfl | exact sub_refl_val _ _ | ((first | refine sub_int ?_ ); first | with_reducible rfl | omega | ((try simp only [wS]); omega) | rfl) ))))); (any_goals (apply okIx_mk; rfl)))); (all_goals (try (first | omega | (simp only; omega)))))
    ))
    · rw [if_neg hmx] at hcs
      rw [hcs] at hsl
      (repeat' (first
    | (intro Q h; refine h ?_; clear h Q)
    | (refine bcase_mk (fun hb => ?_) (fun hb => ?_) <;> (try simp only [nS, nT, eq_self, reduceCtorEq] at hb) <;> (try (exfalso; (first | omega ); done)))
    | refine seq_go ?_
    | refine And.intro (by first | omega | ((try simp only [wS]); omega) | rfl | decide) ?_
    | ((first | apply call_detx [some 0, some 1, some 5] (hco) ); (focus ((iterate 2 (all_goals (repeat' (first | exact row_same rfl rfl rfl | exact subL_nil | exact trivial | (intro Q h; refine h ?_; clear h Q) | refine And.intro ?_ ?_ | refine subL_cons ?_ ?_ | refine sub_agg ?_ | exact sub_sl rfl rfl rfl | exact sub_refl_val _ _ )))))); (any_goals (first | (apply nodup_mk; rfl) )))
    | ((first | apply call_detx [some 8] (hsl) ); (focus ((iterate 2 (all_goals (repeat' (first | exact subL_nil | exact trivial | (intro Q h; refine h ?_; clear h Q) | refine And.intro ?_ ?_ | refine subL_cons ?_ ?_ | exact sub_sl rfl rfl rfl | exact row_ren rfl rfl rfl )))))); (any_goals (first | (apply nodup_mk; rfl) )))
    | (apply next_sub (Subtype.mk (x + 1) _); (focus (apply le_mk [some 0, some 1, some 2, some 3, some 4, some 5, some 6, some 7]; (focus (iterate 2 (all_goals (repeat' (first | exact sub_dead | exact row_same rfl rfl rfl | exact subL_nil | exact trivial | (intro Q h; refine h ?_; clear h Q) | refine And.intro ?_ ?_ | refine subL_cons ?_ ?_ | refine var_mk ?_ | exact sub_ptr rfl rfl | exact sub_sl rfl rfl rfl | exact sub_refl_val _ _ | ((first | refine sub_int ?_ ); first | with_reducible rfl | omega | ((try simp only [wS]); omega) | rfl) ))))); (any_goals (apply okIx_mk; rfl)))); (all_goals (try (first | omega | (simp only; omega)))))
    ))
  · obtain rfl : x = ns.length := by omega
    (repeat' (first
    | (intro Q h; refine h ?_; clear h Q)
    | (refine bcase_mk (fun hb => ?_) (fun hb => ?_) <;> (try simp only [nS, nT, eq_self, reduceCtorEq] at hb) <;> (try (exfalso; (first | omega ); done)))
    | ((first | apply call0 (haw) ); (focus (iterate 2 (all_goals (repeat' (first | exact subL_nil ))))))
    | (apply ret_mk [some 0, some 1, some 2]; (focus (iterate 2 (all_goals (repeat' (first | exact row_same rfl rfl rfl | exact trivial | (intro Q h; refine h ?_; clear h Q) | refine And.intro ?_ ?_ | exact sub_sb rfl ))))); (any_goals (apply okIx_mk; rfl)))
    ))
end Go.Vx.L42

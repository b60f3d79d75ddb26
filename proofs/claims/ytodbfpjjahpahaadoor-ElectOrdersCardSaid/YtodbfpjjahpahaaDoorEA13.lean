/- Lemmas of a small executor for the model, and contracts of functions, used for the law that this claim proves. No condition. -/
import Derived.Test.YtodbfpjjahpahaaDoorEA12
set_option linter.unusedSimpArgs false
set_option linter.unusedVariables false
set_option maxRecDepth 100000
namespace Go.Vx.L42
open Go Go.Proofs
/-- The distances from a node. -/
def dsN (ns : List Nd) (l : List Ed) (x j : Nat) : Int := (dsA ns.length l x).getD j 0
/-- The expected master and steps of a node, among the first nodes. -/
def exC (ns : List Nd) (l : List Ed) (x i : Nat) : Nat × Int := expX (fun y => owD (ns.getD y nd0)) (dsN ns l x) x i
def exL (ns : List Nd) (l : List Ed) : Nat → List Ch
  | 0 => []
  | x + 1 => exL ns l x ++ [⟨((exC ns l x ns.length).1 : Int), (exC ns l x ns.length).2⟩]
theorem exL_len (ns : List Nd) (l : List Ed) : ∀ x, (exL ns l x).length = x
  | 0 => rfl
  | x + 1 => by rw [exL, List.length_append, exL_len ns l x]; rfl
theorem exC_lt (ns : List Nd) (l : List Ed) (x : Nat) (hx : x < ns.length) : ∀ i, i ≤ ns.length → (exC ns l x i).1 < ns.length
  | 0, _ => hx
  | i + 1, hi => by
    have ih := exC_lt ns l x hx i (by omega)
    have e : exC ns l x (i + 1) = if 0 ≤ dsN ns l x i ∧ lessD (owD (ns.getD i nd0)) (owD (ns.getD (exC ns l x i).1 nd0)) = true then (i, dsN ns l x i) else exC ns l x i := rfl
    rw [e]
    split
    · show i < ns.length; omega
    · exact ih
theorem settle_ok (n : Int) (l : List Ed) (cap : Option Nat) (ns : List Nd) (cap' : Option Nat) (hn : ns.length ≤ 1000) :
    Runs Tryd.prog 15 [aN n l cap ns cap'] [gB l, ndB ns] (Det (.val (.int .i64 ((ns.length : Int) + 104))) [gB l, ndB ns]) := by
  refine Runs.mk tabOK Tryd.call15 Tryd.func15 rfl Tryd.ntmps15 Tryd.results15 rfl ?_
  (repeat' (first
    | (intro Q h; refine h ?_; clear h Q)
    | (apply ret_mk [some 0, some 1]; (focus (iterate 2 (all_goals (repeat' (first | exact trivial | (intro Q h; refine h ?_; clear h Q) | refine And.intro ?_ ?_ | exact row_same rfl rfl rfl | ((first | refine sub_int ?_ ); first | with_reducible rfl | omega | ((try simp only [wS]); omega) | rfl) ))))); (any_goals (apply okIx_mk; rfl)))
    ))
  all_goals (rw [IntKind.wrap_i64, IntKind.wrap_i64]; omega)
theorem start_ok (n : Int) (l : List Ed) (cap : Option Nat) (ns : List Nd) (cap' : Option Nat) :
    Runs Tryd.prog 20 [aN n l cap ns cap'] [gB l, ndB ns] (Det (.agg [.val (.int .i64 0), .val (.slice none 0 0)]) [gB l, ndB ns]) := by
  refine Runs.mk tabOK Tryd.call20 Tryd.func20 rfl Tryd.ntmps20 Tryd.results20 rfl ?_
  (repeat' (first
    | (intro Q h; refine h ?_; clear h Q)
    | (apply ret_mk [some 0, some 1]; (focus (iterate 2 (all_goals (repeat' (first | exact subL_nil | exact trivial | (intro Q h; refine h ?_; clear h Q) | refine And.intro ?_ ?_ | refine subL_cons ?_ ?_ | refine sub_agg ?_ | exact sub_refl_val _ _ | exact row_same rfl rfl rfl ))))); (any_goals (apply okIx_mk; rfl)))
    ))
set_option maxHeartbeats 4000000 in
theorem expected_ok (n : Int) (l : List Ed) (cap : Option Nat) (hl : l.length ≤ maxLen) (ns : List Nd) (cap' : Option Nat) (hn : ns.length ≤ maxLen) (hwn : ∀ x, wfD (owD (ns.getD x nd0))) :
    (ckE n l ns ≠ 0 → Runs Tryd.prog 8 [aN n l cap ns cap'] [gB l, ndB ns] (Det (.tup [.val (.slice none 0 0), .val (.int .i64 (ckE n l ns))]) [gB l, ndB ns])) ∧
    (ckE n l ns = 0 → Runs Tryd.prog 8 [aN n l cap ns cap'] [gB l, ndB ns] (Det (.tup [.sl 2 2 0 ns.length none, .val (.int .i64 0)]) [gB l, ndB ns, chB true (exL ns l ns.length)])) := by
  have hmx : maxLen = 9223372036854775807 := by decide
  have hck := echeck_ok n l cap hl ns cap' hn
  by_cases hc : ckE n l ns = 0
  rotate_left
  · refine ⟨fun _ => ?_, fun h => absurd h hc⟩
    generalize ckE n l ns = c at *
    refine Runs.mk tabOK Tryd.call8 Tryd.func8 rfl Tryd.ntmps8 Tryd.results8 rfl ?_
    (repeat' (first
    | (intro Q h; refine h ?_; clear h Q)
    | (refine bcase_mk (fun hb => ?_) (fun hb => ?_) <;> (try simp only [nS, nT, eq_self, reduceCtorEq] at hb) <;> (try (exfalso; (first | omega ); done)))
    | refine seq_go ?_
    | ((first | apply call_detx [some 0, some 1] (hck) ); (focus ((iterate 2 (all_goals (repeat' (first | exact subL_nil | exact trivial | (intro Q h; refine h ?_; clear h Q) | refine And.intro ?_ ?_ | refine subL_cons ?_ ?_ | refine sub_agg ?_ | exact sub_sl rfl rfl rfl | exact sub_refl_val _ _ | exact row_same rfl rfl rfl )))))); (any_goals (first | (apply nodup_mk; rfl) )))
    | (apply ret_mk [some 0, some 1]; (focus (iterate 2 (all_goals (repeat' (first | exact subL_nil | exact trivial | (intro Q h; refine h ?_; clear h Q) | refine And.intro ?_ ?_ | refine subL_cons ?_ ?_ | refine sub_tup ?_ | exact sub_refl_val _ _ | exact row_same rfl rfl rfl ))))); (any_goals (apply okIx_mk; rfl)))
    ))
  refine ⟨fun h => absurd hc h, fun _ => ?_⟩
  obtain ⟨hc1, hc2, _⟩ := ckE_zero hc
  subst hc2
  have hN : NOK ns l := ⟨hc, hwn⟩
  have hF := fok hN
  have hn24 := hF.n24
  rw [hc] at hck
  have hsu := survey_ok ns.length l cap hl ns cap' rfl hc1
  have hrl := prR_len ns.length l ns.length
  obtain ⟨m', hmm, hmb, hl64, hed⟩ := ckC_parts hc1
  obtain rfl : ns.length = m' := by omega
  have hdl : ∀ a, a < ns.length → (dsA ns.length l a).length = ns.length := fun a ha => by
    unfold dsA
    rw [if_pos (hasB_of hc1 (by omega) (by omega)), Int.toNat_natCast, Int.toNat_natCast]
    exact (dsF_is hed hmb.2 ha).1.len
  refine Runs.mk tabOK Tryd.call8 Tryd.func8 rfl Tryd.ntmps8 Tryd.results8 rfl ?_
  (repeat' (first
    | (intro Q h; refine h ?_; clear h Q)
    | (refine bcase_mk (fun hb => ?_) (fun hb => ?_) <;> (try simp only [nS, nT, eq_self, reduceCtorEq] at hb) <;> (try (exfalso; fail; done)))
    | refine seq_go ?_
    | ((first | apply call_detx [some 0, some 1] (hck) ); (focus ((iterate 2 (all_goals (repeat' (first | exact subL_nil | exact trivial | (intro Q h; refine h ?_; clear h Q) | refine And.intro ?_ ?_ | refine subL_cons ?_ ?_ | refine sub_agg ?_ | exact sub_sl rfl rfl rfl | exact sub_refl_val _ _ | exact row_same rfl rfl rfl )))))); (any_goals (first | (apply nodup_mk; rfl) )))
    | ((first | apply call_detx [some 0, some 1] (hsu) ); (focus ((iterate 2 (all_goals (repeat' (first | exact subL_nil | exact trivial | (intro Q h; refine h ?_; clear h Q) | refine And.intro ?_ ?_ | refine subL_cons ?_ ?_ | refine sub_agg ?_ | exact sub_sl rfl rfl rfl | exact sub_refl_val _ _ | exact row_same rfl rfl rfl )))))); (any_goals (first | (apply nodup_mk; rfl) )))
    ))
  refine loop_inv (σ := Nat) (fun x => x ≤ ns.length) (fun x => ⟨[(1, .ptr 2 3 0 0), (5, .ptr 5 3 0 0), (6, .sl 6 2 0 x none), (20, .val (.int .i64 ns.length)), (21, .val (.int .i64 x))], [gB l, ndB ns, .var [.val (.int .i64 ns.length), .sl 0 4 0 l.length cap, .sl 1 6 0 ns.length cap'], .fam true 58 3 1 ns.length (famF intC 0 (rsN ns l)) none 0, peB (pkN' ns l) (gpF l), .var [.sl 1 6 0 ns.length cap', .sl 3 1 0 ns.length none, .map 4], chB true (exL ns l x)]⟩) (fun x => ns.length - x) (0) ?_ ?_ ?_
  · omega
  · (apply le_mk [some 0, some 1, some 2, some 3, some 4, some 5, none]; (focus (iterate 2 (all_goals (repeat' (first | exact fam_ren rfl rfl rfl | exact mapa_same plA_flat rfl (fun _ _ => rfl) | exact sub_map rfl | exact subL_nil | exact trivial | (intro Q h; refine h ?_; clear h Q) | refine And.intro ?_ ?_ | refine subL_cons ?_ ?_ | refine var_mk ?_ | exact sub_ptr rfl rfl | exact sub_sl rfl rfl rfl | exact sub_refl_val _ _ | exact row_same rfl rfl rfl | exact sub_nil rfl | ((first | refine virt_mk ?_ ); first | with_reducible rfl | omega | ((try simp only [wS]); omega) | rfl) ))))); (any_goals (apply okIx_mk; rfl)))
  rintro z hx
  have hlx := exL_len ns l z
  have hsx : exL ns l (z + 1) = exL ns l z ++ [⟨((exC ns l z ns.length).1 : Int), (exC ns l z ns.length).2⟩] := rfl
  by_cases hzl : z < ns.length
  · have hd := dist_ok ns.length l cap hl z
    have hdx := hdl z hzl
    rw [hdx] at hd
    have hcl := exC_lt ns l z hzl
    have hcs : ∀ i, exC ns l z (i + 1) = if 0 ≤ (dsA ns.length l z).getD i 0 ∧ lessD (owD (ns.getD i nd0)) (owD (ns.getD (exC ns l z i).1 nd0)) = true then (i, (dsA ns.length l z).getD i 0) else exC ns l z i := fun _ => rfl
    have hc0 : exC ns l z 0 = (z, 0) := rfl
    generalize hq1 : exL ns l (z + 1) = q1 at *
    generalize exL ns l z = q at *
    generalize dsA ns.length l z = D at *
    (repeat' (first
    | (intro Q h; refine h ?_; clear h Q)
    | (refine bcase_mk (fun hb => ?_) (fun hb => ?_) <;> (try simp only [nS, nT, eq_self, reduceCtorEq] at hb) <;> (try (exfalso; (first | omega ); done)))
    | refine seq_go ?_
    | ((first | apply call1 (hd) ); (focus (iterate 2 (all_goals (repeat' (first | exact subL_nil | exact trivial | (intro Q h; refine h ?_; clear h Q) | refine And.intro ?_ ?_ | refine subL_cons ?_ ?_ | refine sub_agg ?_ | exact sub_sl rfl rfl rfl | exact sub_refl_val _ _ | exact row_same rfl rfl rfl ))))); (try (any_goals fail)))
    ))
    refine loop_inv (σ := Nat) (fun x => x ≤ ns.length) (fun x => ⟨[(1, .ptr 2 3 0 0), (5, .ptr 5 3 0 0), (6, .sl 6 2 0 z none), (8, .ptr 7 2 0 0), (20, .val (.int .i64 ns.length)), (21, .val (.int .i64 z)), (29, .sl 8 1 0 ns.length none), (30, .val (.int .i64 ns.length)), (31, .val (.int .i64 x))], [gB l, ndB ns, .var [.val (.int .i64 ns.length), .sl 0 4 0 l.length cap, .sl 1 6 0 ns.length cap'], .fam true 58 3 1 ns.length (famF intC 0 (rsN ns l)) none 0, peB (pkN' ns l) (gpF l), .var [.sl 1 6 0 ns.length cap', .sl 3 1 0 ns.length none, .map 4], chB true q, .var [.val (.int .i64 ((exC ns l z x).1 : Int)), .val (.int .i64 (exC ns l z x).2)], iB true D]⟩) (fun x => ns.length - x) (0) ?_ ?_ ?_
    · omega
    · rw [hc0]
      (apply le_mk [some 0, some 1, some 2, some 3, some 4, some 5, some 6, some 7, some 8]; (focus (iterate 2 (all_goals (repeat' (first | exact fam_same rfl rfl rfl | exact mapa_same plA_flat rfl (fun _ _ => rfl) | exact sub_map rfl | exact subL_nil | exact trivial | (intro Q h; refine h ?_; clear h Q) | refine And.intro ?_ ?_ | refine subL_cons ?_ ?_ | refine var_mk ?_ | exact sub_ptr rfl rfl | exact sub_sl rfl rfl rfl | exact sub_refl_val _ _ | exact row_same rfl rfl rfl | exact row_ren rfl rfl rfl ))))); (any_goals (apply okIx_mk; rfl)))
    rintro j hj
    by_cases hjl : j < ns.length
    · have hzj : 0 + Int.toNat (j : Int) = j := by omega
      have ho1 := own_ok ns cap' (rsN ns l) (pkN' ns l) (gpF l) j hjl
      have hcj := hcl j (by omega)
      have ho2 := own_ok ns cap' (rsN ns l) (pkN' ns l) (gpF l) (exC ns l z j).1 hcj
      unfold aF fB at ho1 ho2
      rw [hrl] at ho1 ho2
      have hle := less_ok (owD (ns.getD j nd0)) (owD (ns.getD (exC ns l z j).1 nd0)) (hF.wf _) (hF.wf _)
      have hs := hcs j
      have hDj : D.getD (0 + Int.toNat (j : Int)) 0 = D.getD j 0 := by rw [hzj]
      rw [← hDj] at hs
      generalize hc' : exC ns l z (j + 1) = c' at *
      generalize exC ns l z j = c at *
      generalize owD (ns.getD j nd0) = o1 at *
      generalize owD (ns.getD c.1 nd0) = o2 at *
      by_cases hneg : 0 ≤ D.getD (0 + Int.toNat (j : Int)) 0
      · cases hLs : lessD o1 o2
        · rw [hLs] at hle
          rw [if_neg (by rw [hLs]; simp)] at hs
          (repeat' (first
    | (intro Q h; refine h ?_; clear h Q)
    | (with_reducible refine bcase_false ?_)
    | (refine bcase_mk (fun hb => ?_) (fun hb => ?_) <;> (try simp only [nS, nT, eq_self, reduceCtorEq] at hb) <;> (try (exfalso; (first | omega ); done)))
    | refine draw_mk (by decide +kernel) ?_
    | refine seq_go ?_
    | refine And.intro (by first | omega | ((try simp only [wS]); omega) | rfl | decide) ?_
    | ((first | apply calld_detx [some 1, some 3, some 4] (ho1)); (focus ((iterate 2 (all_goals (repeat' (first | exact fam_same rfl rfl rfl | exact mapa_same plA_flat rfl (fun _ _ => rfl) | exact sub_map rfl | exact subL_nil | exact trivial | (intro Q h; refine h ?_; clear h Q) | refine And.intro ?_ ?_ | refine subL_cons ?_ ?_ | refine sub_agg ?_ | exact sub_sl rfl rfl rfl | exact sub_refl_val _ _ | exact row_same rfl rfl rfl | refine sub_int ?_ )))); done)); (any_goals (first | (apply nodup_mk2; rfl) )))
    | ((first | apply calld_detx [some 1, some 3, some 4] (ho2)); (focus ((iterate 2 (all_goals (repeat' (first | exact fam_same rfl rfl rfl | exact mapa_same plA_flat rfl (fun _ _ => rfl) | exact sub_map rfl | exact subL_nil | exact trivial | (intro Q h; refine h ?_; clear h Q) | refine And.intro ?_ ?_ | refine subL_cons ?_ ?_ | refine sub_agg ?_ | exact sub_sl rfl rfl rfl | exact sub_refl_val _ _ | exact row_same rfl rfl rfl )))); done)); (any_goals (first | (apply nodup_mk2; rfl) )))
    | ((first | apply calld0 (hle)); (focus ((iterate 2 (all_goals (repeat' (first | exact subL_nil | refine subL_cons ?_ ?_ | refine sub_agg ?_ | exact sub_refl_val _ _ )))); done)))
    | (apply next_sub (Subtype.mk (j + 1) (by first | omega | (simp only; omega))); (focus (rw [hc', hs]; apply le_mk [some 0, some 1, some 2, some 3, some 4, some 5, some 6, some 7, some 8]; (focus (iterate 2 (all_goals (repeat' (first | exact fam_same rfl rfl rfl | exact mapa_same plA_flat rfl (fun _ _ => rfl) | exact sub_map rfl | exact subL_nil | exact trivial | (intro Q h; refine h ?_; clear h Q) | refine And.intro ?_ ?_ | refine subL_cons ?_ ?_ | refine var_mk ?_ | exact sub_ptr rfl rfl | exact sub_sl rfl rfl rfl | exact sub_refl_val _ _ | exact row_same rfl rfl rfl | ((first | refine sub_int ?_ ); first | with_reducible rfl | omega | ((try simp only [wS]); omega) | rfl) ))))); (any_goals (apply okIx_mk; rfl)))); (all_goals (try (first | (simp only; omega)))))
    ))
        · rw [hLs] at hle
          rw [if_pos ⟨hneg, hLs⟩] at hs
          (repeat' (first
    | (intro Q h; refine h ?_; clear h Q)
    | (with_reducible refine bcase_true ?_)
    | (refine bcase_mk (fun hb => ?_) (fun hb => ?_) <;> (try simp only [nS, nT, eq_self, reduceCtorEq] at hb) <;> (try (exfalso; (first | omega ); done)))
    | refine draw_mk (by decide +kernel) ?_
    | refine seq_go ?_
    | refine And.intro (by first | omega | ((try simp only [wS]); omega) | rfl | decide) ?_
    | ((first | apply calld_detx [some 1, some 3, some 4] (ho1)); (focus ((iterate 2 (all_goals (repeat' (first | exact fam_same rfl rfl rfl | exact mapa_same plA_flat rfl (fun _ _ => rfl) | exact sub_map rfl | exact subL_nil | exact trivial | (intro Q h; refine h ?_; clear h Q) | refine And.intro ?_ ?_ | refine subL_cons ?_ ?_ | refine sub_agg ?_ | exact sub_sl rfl rfl rfl | exact sub_refl_val _ _ | exact row_same rfl rfl rfl | refine sub_int ?_ )))); done)); (any_goals (first | (apply nodup_mk2; rfl) )))
    | ((first | apply calld_detx [some 1, some 3, some 4] (ho2)); (focus ((iterate 2 (all_goals (repeat' (first | exact fam_same rfl rfl rfl | exact mapa_same plA_flat rfl (fun _ _ => rfl) | exact sub_map rfl | exact subL_nil | exact trivial | (intro Q h; refine h ?_; clear h Q) | refine And.intro ?_ ?_ | refine subL_cons ?_ ?_ | refine sub_agg ?_ | exact sub_sl rfl rfl rfl | exact sub_refl_val _ _ | exact row_same rfl rfl rfl )))); done)); (any_goals (first | (apply nodup_mk2; rfl) )))
    | ((first | apply calld0 (hle)); (focus ((iterate 2 (all_goals (repeat' (first | exact subL_nil | refine subL_cons ?_ ?_ | refine sub_agg ?_ | exact sub_refl_val _ _ )))); done)))
    | (apply next_sub (Subtype.mk (j + 1) (by first | omega | (simp only; omega))); (focus (rw [hc', hs]; apply le_mk [some 0, some 1, some 2, some 3, some 4, some 5, some 6, some 7, some 8]; (focus (iterate 2 (all_goals (repeat' (first | exact fam_same rfl rfl rfl | exact mapa_same plA_flat rfl (fun _ _ => rfl) | exact sub_map rfl | exact subL_nil | exact trivial | (intro Q h; refine h ?_; clear h Q) | refine And.intro ?_ ?_ | refine subL_cons ?_ ?_ | refine var_mk ?_ | exact sub_ptr rfl rfl | exact sub_sl rfl rfl rfl | exact sub_refl_val _ _ | exact row_same rfl rfl rfl | ((first | refine sub_int ?_ ); first | with_reducible rfl | omega | ((try simp only [wS]); omega) | rfl) ))))); (any_goals (apply okIx_mk; rfl)))); (all_goals (try (first | (simp only; omega)))))
    ))
      · rw [if_neg (fun h => hneg h.1)] at hs
        (repeat' (first
    | (intro Q h; refine h ?_; clear h Q)
    | (refine bcase_mk (fun hb => ?_) (fun hb => ?_) <;> (try simp only [nS, nT, eq_self, reduceCtorEq] at hb) <;> (try (exfalso; (first | omega ); done)))
    | refine draw_mk (by decide +kernel) ?_
    | refine seq_go ?_
    | refine And.intro (by first | omega | ((try simp only [wS]); omega) | rfl | decide) ?_
    | (apply next_sub (Subtype.mk (j + 1) (by first | omega | (simp only; omega))); (focus (rw [hc', hs]; apply le_mk [some 0, some 1, some 2, some 3, some 4, some 5, some 6, some 7, some 8]; (focus (iterate 2 (all_goals (repeat' (first | exact fam_same rfl rfl rfl | exact mapa_same plA_flat rfl (fun _ _ => rfl) | exact sub_map rfl | exact subL_nil | exact trivial | (intro Q h; refine h ?_; clear h Q) | refine And.intro ?_ ?_ | refine subL_cons ?_ ?_ | refine var_mk ?_ | exact sub_ptr rfl rfl | exact sub_sl rfl rfl rfl | exact sub_refl_val _ _ | exact row_same rfl rfl rfl | ((first | refine sub_int ?_ ); first | with_reducible rfl | omega | ((try simp only [wS]); omega) | rfl) ))))); (any_goals (apply okIx_mk; rfl)))); (all_goals (try (first | (simp only; omega)))))
    ))
    · obtain rfl : j = ns.length := by omega
      (repeat' (first
    | (intro Q h; refine h ?_; clear h Q)
    | (refine bcase_mk (fun hb => ?_) (fun hb => ?_) <;> (try simp only [nS, nT, eq_self, reduceCtorEq] at hb) <;> (try (exfalso; (first | omega ); done)))
    | refine And.intro (by first | omega | ((try simp only [wS]); omega) | rfl | decide) ?_
    | (apply next_sub (Subtype.mk (z + 1) (by first | omega | (simp only; omega))); (focus (rw [hq1, hsx]; apply le_mk [some 0, some 1, some 2, some 3, some 4, some 5, some _]; (focus (iterate 2 (all_goals (repeat' (first | exact fam_same rfl rfl rfl | exact mapa_same plA_flat rfl (fun _ _ => rfl) | exact sub_map rfl | exact subL_nil | exact trivial | (intro Q h; refine h ?_; clear h Q) | refine And.intro ?_ ?_ | refine subL_cons ?_ ?_ | refine var_mk ?_ | exact sub_ptr rfl rfl | exact sub_sl rfl rfl rfl | exact sub_refl_val _ _ | exact row_same rfl rfl rfl | ((first | refine sub_int ?_ | show (_ : Nat) = _); first | with_reducible rfl | omega | ((try simp only [wS]); omega) | rfl) | apply row_app1 | refine cells_succ ?_ ?_ | exact cell0 | with_reducible rfl | refine sub_int ?_ ))))); (any_goals (apply okIx_mk; rfl)))); (all_goals (try (first | (simp only; omega)))))
    ))
  · obtain rfl : z = ns.length := by omega
    (repeat' (first
    | (intro Q h; refine h ?_; clear h Q)
    | (refine bcase_mk (fun hb => ?_) (fun hb => ?_) <;> (try simp only [nS, nT, eq_self, reduceCtorEq] at hb) <;> (try (exfalso; (first | omega ); done)))
    | (apply ret_mk [some 0, some 1, some 6]; (focus (iterate 2 (all_goals (repeat' (first | exact subL_nil | exact trivial | (intro Q h; refine h ?_; clear h Q) | refine And.intro ?_ ?_ | refine subL_cons ?_ ?_ | refine sub_tup ?_ | exact sub_sl rfl rfl rfl | exact sub_refl_val _ _ | exact row_same rfl rfl rfl ))))); (any_goals (apply okIx_mk; rfl)))
    ))
end Go.Vx.L42

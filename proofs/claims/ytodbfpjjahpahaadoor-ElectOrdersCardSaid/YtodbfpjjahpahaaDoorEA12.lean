/- Lemmas of a small executor for the model, and contracts of functions, used for the law that this claim proves. No condition. -/
import Derived.Test.YtodbfpjjahpahaaDoorEA11
set_option linter.unusedSimpArgs false
set_option linter.unusedVariables false
set_option maxRecDepth 100000
namespace Go.Vx.L42
open Go Go.Proofs
/-- A choice: the master, and the steps. -/
structure Ch where
  m : Int
  s : Int
  deriving DecidableEq, Inhabited
def chC (c : Ch) : List AV := [.val (.int .i64 c.m), .val (.int .i64 c.s)]
instance : FlatC chC := ⟨fun x v h => by simp [chC] at h; rcases h with rfl | rfl <;> trivial⟩
abbrev ch0 : Ch := ⟨0, 0⟩
abbrev chF (l : List Ch) : Nat → Nat → AV := rowF chC ch0 l
abbrev chB (rw : Bool) (l : List Ch) : Blk := .arr rw 46 2 l.length (chF l)
/-- What a node follows. -/
def rsC (ns : List Nd) (s : MS) (x : Nat) : Ch := ⟨namN ns (folD (owD (ns.getD x nd0)) (hrX s x 8)).gm, if folD (owD (ns.getD x nd0)) (hrX s x 8) = owD (ns.getD x nd0) then 0 else (folD (owD (ns.getD x nd0)) (hrX s x 8)).st + 1⟩
def rsL (ns : List Nd) (s : MS) : Nat → List Ch
  | 0 => []
  | x + 1 => rsL ns s x ++ [rsC ns s x]
theorem rsL_len (ns : List Nd) (s : MS) : ∀ x, (rsL ns s x).length = x
  | 0 => rfl
  | x + 1 => by rw [rsL, List.length_append, rsL_len ns s x]; rfl
set_option maxHeartbeats 4000000 in
theorem result_ok (n : Int) (l : List Ed) (cap : Option Nat) (hl : l.length ≤ maxLen) (ns : List Nd) (cap' : Option Nat) (hn : ns.length ≤ maxLen) (hwn : ∀ x, wfD (owD (ns.getD x nd0))) (rd : Int) (ms : List Mm) (cap2 : Option Nat) (hm : ms.length ≤ maxLen) (hwm : ∀ m ∈ ms, wfD m.set) (he : enE n l ns rd ms = 0) :
    Runs Tryd.prog 17 [aN n l cap ns cap', aBl rd ms cap2 2] [gB l, ndB ns, meB false ms] (Det (.tup [.sl 3 2 0 ns.length none, .val (.int .i64 0)]) [gB l, ndB ns, meB false ms, chB true (rsL ns (entS ms) ns.length)]) := by
  have hmx : maxLen = 9223372036854775807 := by decide
  have en := (enter_ok n l cap hl ns cap' hn rd ms cap2 hm).2 he
  obtain ⟨rfl, hr1, hck, hoL⟩ := enE_zero he
  have hN : NOK ns l := ⟨hck, hwn⟩
  have hF := fok hN
  have hn24 := hF.n24
  have hS := sok_ent hoL hwm
  have hrl := prR_len ns.length l ns.length
  generalize entS ms = s at *
  refine Runs.mk tabOK Tryd.call17 Tryd.func17 rfl Tryd.ntmps17 Tryd.results17 rfl ?_
  (repeat' (first
    | (intro Q h; refine h ?_; clear h Q)
    | (refine bcase_mk (fun hb => ?_) (fun hb => ?_) <;> (try simp only [nS, nT, eq_self, reduceCtorEq] at hb) <;> (try (exfalso; fail; done)))
    | refine seq_go ?_
    | ((first | apply call_detx [some 0, some 1, some 2] (en) ); (focus ((iterate 2 (all_goals (repeat' (first | exact subL_nil | exact trivial | (intro Q h; refine h ?_; clear h Q) | refine And.intro ?_ ?_ | refine subL_cons ?_ ?_ | refine sub_agg ?_ | exact sub_sl rfl rfl rfl | exact sub_refl_val _ _ | exact row_same rfl rfl rfl )))))); (any_goals (first | (apply nodup_mk; rfl) )))
    ))
  refine loop_inv (σ := Nat) (fun x => x ≤ ns.length) (fun x => ⟨[(6, .ptr 5 3 0 0), (7, .map 6), (9, .sl 7 2 0 x none), (26, .val (.int .i64 ns.length)), (27, .val (.int .i64 x))], [gB l, ndB ns, meB false ms, .fam true 58 3 1 ns.length (famF intC 0 (rsN ns l)) none 0, peB (pkN' ns l) (gpF l), .var [.sl 1 6 0 ns.length cap', .sl 3 1 0 ns.length none, .map 4], mB s, chB true (rsL ns s x)]⟩) (fun x => ns.length - x) (0) ?_ ?_ ?_
  · omega
  · (apply le_mk [some 0, some 1, some 2, some 5, some 6, some 8, some 7, none]; (focus (iterate 2 (all_goals (repeat' (first | exact fam_ren rfl rfl rfl | exact mapa_same plA_flat rfl (fun _ _ => rfl) | exact mapa_same meA_flat rfl (fun _ _ => rfl) | exact sub_map rfl | exact subL_nil | exact trivial | (intro Q h; refine h ?_; clear h Q) | refine And.intro ?_ ?_ | refine subL_cons ?_ ?_ | refine var_mk ?_ | exact sub_ptr rfl rfl | exact sub_sl rfl rfl rfl | exact sub_refl_val _ _ | exact row_same rfl rfl rfl | exact sub_nil rfl | ((first | refine virt_mk ?_ ); first | with_reducible rfl | omega | ((try simp only [wS]); omega) | rfl) ))))); (any_goals (apply okIx_mk; rfl)))
  rintro x hx
  have hlx := rsL_len ns s x
  have hsx : rsL ns s (x + 1) = rsL ns s x ++ [rsC ns s x] := rfl
  by_cases hxl : x < ns.length
  · have hown := own_ok ns cap' (rsN ns l) (pkN' ns l) (gpF l) x hxl
    unfold aF fB at hown
    rw [hrl] at hown
    have hhe := heard_ok s x
    have hHl := hrX_len s x 8
    have hma := master_ok (owD (ns.getD x nd0)) (hrX s x 8) none (by omega) (hrX_wf hS x 8) (hF.wf x) (hF.cl x hxl)
    have hst := fol_st hS (owD (ns.getD x nd0)) rfl x
    have hna := named_ok ns cap' (rsN ns l) (pkN' ns l) (gpF l) (folD (owD (ns.getD x nd0)) (hrX s x 8)).gm (by omega)
    unfold aF fB at hna
    rw [hrl] at hna
    have hrc : rsC ns s x = ⟨namN ns (folD (owD (ns.getD x nd0)) (hrX s x 8)).gm, if folD (owD (ns.getD x nd0)) (hrX s x 8) = owD (ns.getD x nd0) then 0 else (folD (owD (ns.getD x nd0)) (hrX s x 8)).st + 1⟩ := rfl
    rw [hrc] at hsx
    generalize hq : rsL ns s (x + 1) = q' at *
    generalize rsL ns s x = q at *
    generalize owD (ns.getD x nd0) = o at *
    generalize hrX s x 8 = H at *
    generalize folD o H = f at *
    by_cases h1 : f = o
    · rw [if_pos h1] at hsx
      subst h1
      generalize namN ns f.gm = nm at *
      (repeat' (first
    | (intro Q h; refine h ?_; clear h Q)
    | (refine bcase_mk (fun hb => ?_) (fun hb => ?_) <;> (try simp only [nS, nT, eq_self, reduceCtorEq] at hb) <;> (try (exfalso; (first | omega ); done)))
    | refine draw_mk (by decide +kernel) ?_
    | refine seq_go ?_
    | refine And.intro (by first | omega | ((try simp only [wS]); omega) | rfl | decide) ?_
    | ((first | apply call_detx [some 1, some 3, some 4] (hown) ); (focus ((iterate 2 (all_goals (repeat' (first | exact fam_same rfl rfl rfl | exact mapa_same plA_flat rfl (fun _ _ => rfl) | exact sub_map rfl | exact subL_nil | exact trivial | (intro Q h; refine h ?_; clear h Q) | refine And.intro ?_ ?_ | refine subL_cons ?_ ?_ | refine sub_agg ?_ | exact sub_sl rfl rfl rfl | exact sub_refl_val _ _ | exact row_same rfl rfl rfl )))))); (any_goals (first | (apply nodup_mk; rfl) )))
    | ((first | apply calld1 (hhe)); (focus ((iterate 2 (all_goals (repeat' (first | exact mapa_same meA_flat rfl (fun _ _ => rfl) | exact sub_map rfl | exact subL_nil | exact trivial | (intro Q h; refine h ?_; clear h Q) | refine And.intro ?_ ?_ | refine subL_cons ?_ ?_ | exact sub_refl_val _ _ )))); done)); (try (any_goals (first | (apply nodup_mk3; rfl)))))
    | ((first | apply calld1 (hma)); (focus ((iterate 2 (all_goals (repeat' (first | exact subL_nil | exact trivial | (intro Q h; refine h ?_; clear h Q) | refine And.intro ?_ ?_ | refine subL_cons ?_ ?_ | refine sub_agg ?_ | exact sub_refl_val _ _ | exact row_ren rfl rfl rfl | ((first | refine sub_sl rfl rfl ?_ ); first | with_reducible rfl | omega | ((try simp only [wS]); omega) | rfl) )))); done)); (try (any_goals (first | (apply nodup_mk3; rfl)))))
    | ((first | apply call_detx [some 1, some 3, some 4] (hna) ); (focus ((iterate 2 (all_goals (repeat' (first | exact fam_same rfl rfl rfl | exact mapa_same plA_flat rfl (fun _ _ => rfl) | exact sub_map rfl | exact subL_nil | exact trivial | (intro Q h; refine h ?_; clear h Q) | refine And.intro ?_ ?_ | refine subL_cons ?_ ?_ | refine sub_agg ?_ | exact sub_sl rfl rfl rfl | exact sub_refl_val _ _ | exact row_same rfl rfl rfl )))))); (any_goals (first | (apply nodup_mk; rfl) )))
    | (apply next_sub (Subtype.mk (x + 1) (by first | omega | (simp only; omega))); (focus (rw [hq, hsx]; apply le_mk [some 0, some 1, some 2, some 3, some 4, some 5, some 6, some _]; (focus (iterate 2 (all_goals (repeat' (first | exact fam_same rfl rfl rfl | exact mapa_same plA_flat rfl (fun _ _ => rfl) | exact mapa_same meA_flat rfl (fun _ _ => rfl) | exact sub_map rfl | exact subL_nil | exact trivial | (intro Q h; refine h ?_; clear h Q) | refine And.intro ?_ ?_ | refine subL_cons ?_ ?_ | refine var_mk ?_ | exact sub_ptr rfl rfl | exact sub_sl rfl rfl rfl | exact sub_refl_val _ _ | exact row_same rfl rfl rfl | ((first | refine sub_int ?_ | show (_ : Nat) = _); first | with_reducible rfl | omega | ((try simp only [wS]); omega) | rfl) | apply row_app1 | refine cells_succ ?_ ?_ | exact cell0 | with_reducible rfl | refine sub_int ?_ ))))); (any_goals (apply okIx_mk; rfl)))); (all_goals (try (first | (simp only; omega)))))
    ))
    · have hne : ¬ (f.p1 = o.p1 ∧ f.cl = o.cl ∧ f.ac = o.ac ∧ f.va = o.va ∧ f.p2 = o.p2 ∧ f.gm = o.gm ∧ f.st = o.st ∧ f.se = o.se ∧ f.sp = o.sp ∧ f.re = o.re ∧ f.rp = o.rp) := fun ⟨a1, a2, a3, a4, a5, a6, a7, a8, a9, a10, a11⟩ => h1 (by cases f; cases o; simp_all)
      rw [if_neg h1] at hsx
      generalize namN ns f.gm = nm at *
      (repeat' (first
    | (intro Q h; refine h ?_; clear h Q)
    | (refine bcase_mk (fun hb => ?_) (fun hb => ?_) <;> (try simp only [nS, nT, eq_self, reduceCtorEq] at hb) <;> (try (exfalso; (first | omega ); done)))
    | refine draw_mk (by decide +kernel) ?_
    | refine seq_go ?_
    | refine And.intro (by first | omega | ((try simp only [wS]); omega) | rfl | decide) ?_
    | ((first | apply call_detx [some 1, some 3, some 4] (hown) ); (focus ((iterate 2 (all_goals (repeat' (first | exact fam_same rfl rfl rfl | exact mapa_same plA_flat rfl (fun _ _ => rfl) | exact sub_map rfl | exact subL_nil | exact trivial | (intro Q h; refine h ?_; clear h Q) | refine And.intro ?_ ?_ | refine subL_cons ?_ ?_ | refine sub_agg ?_ | exact sub_sl rfl rfl rfl | exact sub_refl_val _ _ | exact row_same rfl rfl rfl )))))); (any_goals (first | (apply nodup_mk; rfl) )))
    | ((first | apply calld1 (hhe)); (focus ((iterate 2 (all_goals (repeat' (first | exact mapa_same meA_flat rfl (fun _ _ => rfl) | exact sub_map rfl | exact subL_nil | exact trivial | (intro Q h; refine h ?_; clear h Q) | refine And.intro ?_ ?_ | refine subL_cons ?_ ?_ | exact sub_refl_val _ _ )))); done)); (try (any_goals (first | (apply nodup_mk3; rfl)))))
    | ((first | apply calld1 (hma)); (focus ((iterate 2 (all_goals (repeat' (first | exact subL_nil | exact trivial | (intro Q h; refine h ?_; clear h Q) | refine And.intro ?_ ?_ | refine subL_cons ?_ ?_ | refine sub_agg ?_ | exact sub_refl_val _ _ | exact row_ren rfl rfl rfl | ((first | refine sub_sl rfl rfl ?_ ); first | with_reducible rfl | omega | ((try simp only [wS]); omega) | rfl) )))); done)); (try (any_goals (first | (apply nodup_mk3; rfl)))))
    | ((first | apply call_detx [some 1, some 3, some 4] (hna) ); (focus ((iterate 2 (all_goals (repeat' (first | exact fam_same rfl rfl rfl | exact mapa_same plA_flat rfl (fun _ _ => rfl) | exact sub_map rfl | exact subL_nil | exact trivial | (intro Q h; refine h ?_; clear h Q) | refine And.intro ?_ ?_ | refine subL_cons ?_ ?_ | refine sub_agg ?_ | exact sub_sl rfl rfl rfl | exact sub_refl_val _ _ | exact row_same rfl rfl rfl )))))); (any_goals (first | (apply nodup_mk; rfl) )))
    | (apply next_sub (Subtype.mk (x + 1) (by first | omega | (simp only; omega))); (focus (rw [hq, hsx]; apply le_mk [some 0, some 1, some 2, some 3, some 4, some 5, some 6, some _]; (focus (iterate 2 (all_goals (repeat' (first | exact fam_same rfl rfl rfl | exact mapa_same plA_flat rfl (fun _ _ => rfl) | exact mapa_same meA_flat rfl (fun _ _ => rfl) | exact sub_map rfl | exact subL_nil | exact trivial | (intro Q h; refine h ?_; clear h Q) | refine And.intro ?_ ?_ | refine subL_cons ?_ ?_ | refine var_mk ?_ | exact sub_ptr rfl rfl | exact sub_sl rfl rfl rfl | exact sub_refl_val _ _ | exact row_same rfl rfl rfl | ((first | refine sub_int ?_ | show (_ : Nat) = _); first | with_reducible rfl | omega | ((try simp only [wS]); omega) | rfl) | apply row_app1 | refine cells_succ ?_ ?_ | exact cell0 | with_reducible rfl | refine sub_int ?_ ))))); (any_goals (apply okIx_mk; rfl)))); (all_goals (try (first | (simp only; omega)))))
    ))
      all_goals exact cwrap (by omega) (by omega)
  · obtain rfl : x = ns.length := by omega
    (repeat' (first
    | (intro Q h; refine h ?_; clear h Q)
    | (refine bcase_mk (fun hb => ?_) (fun hb => ?_) <;> (try simp only [nS, nT, eq_self, reduceCtorEq] at hb) <;> (try (exfalso; (first | omega ); done)))
    | (apply ret_mk [some 0, some 1, some 2, some 7]; (focus (iterate 2 (all_goals (repeat' (first | exact subL_nil | exact trivial | (intro Q h; refine h ?_; clear h Q) | refine And.intro ?_ ?_ | refine subL_cons ?_ ?_ | refine sub_tup ?_ | exact sub_sl rfl rfl rfl | exact sub_refl_val _ _ | exact row_same rfl rfl rfl ))))); (any_goals (apply okIx_mk; rfl)))
    ))
set_option maxHeartbeats 4000000 in
theorem codes_ok (n : Int) (l : List Ed) (cap : Option Nat) (hl : l.length ≤ maxLen) (ns : List Nd) (cap' : Option Nat) (hn : ns.length ≤ maxLen) (hwn : ∀ x, wfD (owD (ns.getD x nd0))) (rd : Int) (ms : List Mm) (cap2 : Option Nat) (hm : ms.length ≤ maxLen) (hwm : ∀ m ∈ ms, wfD m.set) (he : enE n l ns rd ms = 0) (x : Nat) (hxl : x < ns.length) :
    Runs Tryd.prog 18 [aN n l cap ns cap', aBl rd ms cap2 2, .val (.int .i64 x)] [gB l, ndB ns, meB false ms] (Det (.tup [.sl 3 1 0 8 none, .val (.int .i64 0)]) [gB l, ndB ns, meB false ms, iB true (codL (owD (ns.getD x nd0)) (hrX (entS ms) x 8))]) := by
  have hmx : maxLen = 9223372036854775807 := by decide
  have en := (enter_ok n l cap hl ns cap' hn rd ms cap2 hm).2 he
  obtain ⟨rfl, hr1, hck, hoL⟩ := enE_zero he
  have hN : NOK ns l := ⟨hck, hwn⟩
  have hF := fok hN
  have hn24 := hF.n24
  have hS := sok_ent hoL hwm
  have hrl := prR_len ns.length l ns.length
  generalize entS ms = s at *
  have hown := own_ok ns cap' (rsN ns l) (pkN' ns l) (gpF l) x hxl
  unfold aF fB at hown
  rw [hrl] at hown
  have hhe := heard_ok s x
  have hHl := hrX_len s x 8
  have hde := decide_ok (owD (ns.getD x nd0)) (hrX s x 8) none (by omega) (hrX_wf hS x 8) (hF.wf x) (hF.cl x hxl)
  have hcl : (codL (owD (ns.getD x nd0)) (hrX s x 8)).length = 8 := by rw [codP_len]; exact hHl
  generalize codL (owD (ns.getD x nd0)) (hrX s x 8) = C at *
  generalize owD (ns.getD x nd0) = o at *
  generalize hrX s x 8 = H at *
  refine Runs.mk tabOK Tryd.call18 Tryd.func18 rfl Tryd.ntmps18 Tryd.results18 rfl ?_
  (repeat' (first
    | (intro Q h; refine h ?_; clear h Q)
    | (refine bcase_mk (fun hb => ?_) (fun hb => ?_) <;> (try simp only [nS, nT, eq_self, reduceCtorEq] at hb) <;> (try (exfalso; (first | omega ); done)))
    | refine seq_go ?_
    | ((first | apply call_detx [some 0, some 1, some 2] (en) ); (focus ((iterate 2 (all_goals (repeat' (first | exact subL_nil | exact trivial | (intro Q h; refine h ?_; clear h Q) | refine And.intro ?_ ?_ | refine subL_cons ?_ ?_ | refine sub_agg ?_ | exact sub_sl rfl rfl rfl | exact sub_refl_val _ _ | exact row_same rfl rfl rfl )))))); (any_goals (first | (apply nodup_mk; rfl) )))
    | ((first | apply call_detx [some 1, some 5, some 6] (hown) ); (focus ((iterate 2 (all_goals (repeat' (first | exact fam_ren rfl rfl rfl | exact mapa_same plA_flat rfl (fun _ _ => rfl) | exact sub_map rfl | exact subL_nil | exact trivial | (intro Q h; refine h ?_; clear h Q) | refine And.intro ?_ ?_ | refine subL_cons ?_ ?_ | refine sub_agg ?_ | exact sub_sl rfl rfl rfl | exact sub_refl_val _ _ | exact row_same rfl rfl rfl )))))); (any_goals (first | (apply nodup_mk; rfl) )))
    | ((first | apply call1 (hhe) ); (focus (iterate 2 (all_goals (repeat' (first | exact mapa_same meA_flat rfl (fun _ _ => rfl) | exact sub_map rfl | exact subL_nil | exact trivial | (intro Q h; refine h ?_; clear h Q) | refine And.intro ?_ ?_ | refine subL_cons ?_ ?_ | exact sub_refl_val _ _ ))))); (try (any_goals fail)))
    | ((first | apply call1 (hde) ); (focus (iterate 2 (all_goals (repeat' (first | exact subL_nil | exact trivial | (intro Q h; refine h ?_; clear h Q) | refine And.intro ?_ ?_ | refine subL_cons ?_ ?_ | refine sub_agg ?_ | exact sub_refl_val _ _ | exact row_ren rfl rfl rfl | ((first | refine sub_sl rfl rfl ?_ ); first | with_reducible rfl | omega | ((try simp only [wS]); omega) | rfl) ))))); (try (any_goals fail)))
    | (apply ret_mk [some 0, some 1, some 2, some _]; (focus (iterate 2 (all_goals (repeat' (first | exact subL_nil | exact trivial | (intro Q h; refine h ?_; clear h Q) | refine And.intro ?_ ?_ | refine subL_cons ?_ ?_ | refine sub_tup ?_ | exact sub_refl_val _ _ | exact row_same rfl rfl rfl | exact row_ren rfl rfl rfl | ((first | refine sub_sl rfl rfl ?_ ); first | with_reducible rfl | omega | ((try simp only [wS]); omega) | rfl) ))))); (any_goals (apply okIx_mk; rfl)))
    ))
end Go.Vx.L42

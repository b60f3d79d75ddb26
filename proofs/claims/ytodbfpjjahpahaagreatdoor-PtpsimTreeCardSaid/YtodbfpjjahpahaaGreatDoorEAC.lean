/- Lemmas of a small executor for the model, and contracts of functions, used for the law that this claim proves. No condition. -/
import Derived.Test.YtodbfpjjahpahaaGreatDoorEAB
import Derived.Test.YtodbfpjjahpahaaGreatDoorEPA
set_option linter.unusedSimpArgs false
set_option linter.unusedVariables false
set_option maxRecDepth 100000
namespace Go.Vx.L58
open Go Go.Proofs
def runE (m : Int) (l : List Ed) (ns : List Nd) (rd : Int) (ms : List Mm) (t : Int) : Int := if enE m l ns rd ms ≠ 0 then enE m l ns rd ms else if t < 0 ∨ 1000 < t ∨ 1073741824 < rd + t then 3 else 0
set_option maxHeartbeats 4000000 in
theorem run_ok (l : List Ed) (cap : Option Nat) (hl : l.length ≤ maxLen) (ns : List Nd) (cap' : Option Nat) (hn : ns.length ≤ maxLen) (hwn : ∀ x, wfD (owD (ns.getD x nd0))) (n : Int) (rd : Int) (ms : List Mm) (cap2 : Option Nat) (hm : ms.length ≤ maxLen) (hwm : ∀ m ∈ ms, wfD m.set) (t : Int) :
  (runE n l ns rd ms t ≠ 0 → Runs Tryz.prog 39 [aN n l cap ns cap', aBl rd ms cap2 2, .val (.int .i64 t)] [gB l, ndB ns, meB false ms] (Det (.tup [.agg [.val (.int .i64 0), .val (.slice none 0 0)], .val (.int .i64 (runE n l ns rd ms t))]) [gB l, ndB ns, meB false ms])) ∧
  (runE n l ns rd ms t = 0 → Runs Tryz.prog 39 [aN n l cap ns cap', aBl rd ms cap2 2, .val (.int .i64 t)] [gB l, ndB ns, meB false ms] (Det (.tup [aBl (rd + t) (lsX ns.length (prR ns.length l ns.length) ((netP ns l).run (memOf (entS ms)) t.toNat)) none 3, .val (.int .i64 0)]) [gB l, ndB ns, meB false ms, meB true (lsX ns.length (prR ns.length l ns.length) ((netP ns l).run (memOf (entS ms)) t.toNat))])) := by
 have hmx : maxLen = 9223372036854775807 := by decide
 obtain ⟨en1, en2⟩ := enter_ok n l cap hl ns cap' hn rd ms cap2 hm
 by_cases he : enE n l ns rd ms = 0
 rotate_left
 ·have e : runE n l ns rd ms t = enE n l ns rd ms := by unfold runE; rw [if_pos he]
  refine ⟨fun _ => ?_, fun h => absurd (e ▸ h) he⟩
  have en := en1 he
  rw [e]
  generalize enE n l ns rd ms = c at *
  refine Runs.mk tabOK Tryz.call39 Tryz.func39 rfl Tryz.ntmps39 Tryz.results39 rfl ?_
  (repeat' (first
  | (intro Q h; refine h ?_; clear h Q)
  | (refine bcase_mk (fun hb => ?_) (fun hb => ?_) <;> (try simp only [nS, nT, eq_self, reduceCtorEq] at hb) <;> (try (exfalso; (first | omega ); done)))
  | refine seq_go ?_
  | ((first | apply call_detx [some 0, some 1, some 2] (en) ); (focus ((iterate 2 (all_goals (repeat' (first | exact subL_nil | exact trivial | (intro Q h; refine h ?_; clear h Q) | refine And.intro ?_ ?_ | refine subL_cons ?_ ?_ | refine sub_agg ?_ | exact sub_sl rfl rfl rfl | exact sub_refl_val _ _ | exact row_same rfl rfl rfl )))))); (any_goals (first | (apply nodup_mk; rfl) )))
  | (apply ret_mk [some 0, some 1, some 2]; (focus (iterate 2 (all_goals (repeat' (first | exact subL_nil | exact trivial | (intro Q h; refine h ?_; clear h Q) | refine And.intro ?_ ?_ | refine subL_cons ?_ ?_ | refine sub_agg ?_ | refine sub_tup ?_ | exact sub_refl_val _ _ | exact row_same rfl rfl rfl ))))); (any_goals (apply okIx_mk; rfl)))
  ))
 have en := en2 he
 obtain ⟨h1, h2, h3⟩ := enE_zero he
 subst h1
 by_cases ht : t < 0 ∨ 1000 < t ∨ 1073741824 < rd + t
 ·have e : runE ns.length l ns rd ms t = 3 := by unfold runE; rw [if_neg (by omega), if_pos ht]
  refine ⟨fun _ => ?_, fun h => by rw [e] at h; cases h⟩
  rw [e]
  have hwr : 0 ≤ t → t ≤ 1000 → IntKind.i64.wrap (rd + t) = rd + t := fun a b => cwrap (by omega) (by omega)
  rcases ht with ht | ht | ht
  all_goals
   refine Runs.mk tabOK Tryz.call39 Tryz.func39 rfl Tryz.ntmps39 Tryz.results39 rfl ?_
   (repeat' (first
  | (intro Q h; refine h ?_; clear h Q)
  | (refine bcase_mk (fun hb => ?_) (fun hb => ?_) <;> (try simp only [nS, nT, eq_self, reduceCtorEq] at hb) <;> (try (exfalso; (first | omega ); done)))
  | refine seq_go ?_
  | ((first | apply call_detx [some 0, some 1, some 2] (en) ); (focus ((iterate 2 (all_goals (repeat' (first | exact subL_nil | exact trivial | (intro Q h; refine h ?_; clear h Q) | refine And.intro ?_ ?_ | refine subL_cons ?_ ?_ | refine sub_agg ?_ | exact sub_sl rfl rfl rfl | exact sub_refl_val _ _ | exact row_same rfl rfl rfl )))))); (any_goals (first | (apply nodup_mk; rfl) )))
  | (apply ret_mk [some 0, some 1, some 2]; (focus (iterate 2 (all_goals (repeat' (first | exact subL_nil | exact trivial | (intro Q h; refine h ?_; clear h Q) | refine And.intro ?_ ?_ | refine subL_cons ?_ ?_ | refine sub_agg ?_ | refine sub_tup ?_ | exact sub_refl_val _ _ | exact row_same rfl rfl rfl ))))); (any_goals (apply okIx_mk; rfl)))
  ))
 have e : runE ns.length l ns rd ms t = 0 := by unfold runE; rw [if_neg (by omega), if_neg ht]
 refine ⟨fun h => absurd e h, fun _ => ?_⟩
 obtain ⟨_, hr1, hck, hoL⟩ := enE_zero he
 have hN : NOK ns l := ⟨hck, hwn⟩
 have hF := fok hN
 have hS0 := sok_ent hoL hwm
 obtain ⟨T, rfl⟩ : ∃ T : Nat, t = T := ⟨t.toNat, by omega⟩
 rw [Int.toNat_natCast]
 have hwr : IntKind.i64.wrap (rd + (T : Int)) = rd + T := cwrap (by omega) (by omega)
 have hrl := prR_len ns.length l ns.length
 generalize hM0 : memOf (entS ms) = M0 at *
 generalize entS ms = s0 at *
 refine Runs.mk tabOK Tryz.call39 Tryz.func39 rfl Tryz.ntmps39 Tryz.results39 rfl ?_
 (repeat' (first
  | (intro Q h; refine h ?_; clear h Q)
  | (refine bcase_mk (fun hb => ?_) (fun hb => ?_) <;> (try simp only [nS, nT, eq_self, reduceCtorEq] at hb) <;> (try (exfalso; (first | omega ); done)))
  | refine seq_go ?_
  | ((first | apply call_detx [some 0, some 1, some 2] (en) ); (focus ((iterate 2 (all_goals (repeat' (first | exact subL_nil | exact trivial | (intro Q h; refine h ?_; clear h Q) | refine And.intro ?_ ?_ | refine subL_cons ?_ ?_ | refine sub_agg ?_ | exact sub_sl rfl rfl rfl | exact sub_refl_val _ _ | exact row_same rfl rfl rfl )))))); (any_goals (first | (apply nodup_mk; rfl) )))
  ))
 refine loop_inv (σ := Nat × MS) (fun x => x.1 ≤ T ∧ SOK ns (pkN' ns l) x.2 ∧ memOf x.2 = (netP ns l).run M0 x.1) (fun x => ⟨[(2, .val (.int .i64 T)), (4, .ptr 3 2 0 0), (6, .ptr 4 2 0 0), (8, .ptr 7 3 0 0), (9, .map 8), (36, .val (.int .i64 T)), (37, .val (.int .i64 x.1))], [gB l, ndB ns, meB false ms, .var [.val (.int .i64 rd), .sl 2 14 0 ms.length cap2], .var [.val (.int .i64 0), .val (.slice none 0 0)], .fam true 29 3 1 ns.length (famF intC 0 (rsN ns l)) none 0, peB (pkN' ns l) (gpF l), .var [.sl 1 6 0 ns.length cap', .sl 5 1 0 ns.length none, .map 6], mB x.2]⟩) (fun x => T - x.1) ((0, s0)) ?_ ?_ ?_
 ·exact ⟨by simp, hS0, hM0⟩
 ·(apply le_mk [some 0, some 1, some 2, some 4, some 5, some 6, some 7, some 9, some 8]; (focus (iterate 2 (all_goals (repeat' (first | exact fam_ren rfl rfl rfl | exact mapa_same plA_flat rfl (fun _ _ => rfl) | exact mapa_same meA_flat rfl (fun _ _ => rfl) | exact sub_map rfl | exact subL_nil | exact trivial | (intro Q h; refine h ?_; clear h Q) | refine And.intro ?_ ?_ | refine subL_cons ?_ ?_ | refine var_mk ?_ | exact sub_ptr rfl rfl | exact sub_sl rfl rfl rfl | exact sub_refl_val _ _ | exact row_same rfl rfl rfl ))))); (any_goals (apply okIx_mk; rfl)))
 rintro ⟨k, s⟩ ⟨hk, hS, hMs⟩
 simp only at hk hS hMs ⊢
 by_cases hkT : k < T
 ·have hro := round_ok ns cap' (rsN ns l) (pkN' ns l) (gpF l) hF s hS
  unfold aF at hro
  rw [hrl] at hro
  (repeat' (first
  | (intro Q h; refine h ?_; clear h Q)
  | (refine bcase_mk (fun hb => ?_) (fun hb => ?_) <;> (try simp only [nS, nT, eq_self, reduceCtorEq] at hb) <;> (try (exfalso; (first | omega ); done)))
  | refine seq_go ?_
  ))
  apply call_ex [some 1, some 5, some 6, some 8] hro
  ·iterate 2 (all_goals (repeat' (first | exact fam_same rfl rfl rfl | exact mapa_same plA_flat rfl (fun _ _ => rfl) | exact mapa_same meA_flat rfl (fun _ _ => rfl) | exact sub_map rfl | exact subL_nil | exact trivial | (intro Q h; refine h ?_; clear h Q) | refine And.intro ?_ ?_ | refine subL_cons ?_ ?_ | refine sub_agg ?_ | exact sub_sl rfl rfl rfl | exact row_same rfl rfl rfl )))
  ·apply nodup_mk; rfl
  intro W hW
  obtain ⟨hS', hM'⟩ := round_at hN hS hW.2
  rw [hMs] at hM'
  (repeat' (first
  | (intro Q h; refine h ?_; clear h Q)
  | (apply next_sub (Subtype.mk ((k + 1, sdA ns (rsN ns l) (gpF l) s (agS s W) ns.length)) ⟨by show k + 1 ≤ T; omega, hS', hM'⟩); (focus (skip; apply le_mk [some 0, some 1, some 2, some 3, some 4, some 5, some 6, some 7, some _]; (focus (iterate 2 (all_goals (repeat' (first | exact fam_same rfl rfl rfl | exact mapa_same plA_flat rfl (fun _ _ => rfl) | exact mapa_same meA_flat rfl (fun _ _ => rfl) | exact sub_map rfl | exact subL_nil | exact trivial | (intro Q h; refine h ?_; clear h Q) | refine And.intro ?_ ?_ | refine subL_cons ?_ ?_ | refine var_mk ?_ | exact sub_ptr rfl rfl | exact sub_sl rfl rfl rfl | exact sub_refl_val _ _ | exact row_same rfl rfl rfl | ((first | refine sub_int ?_ ); first | with_reducible rfl | omega | ((try simp only [wS]); omega) | rfl) ))))); (any_goals (apply okIx_mk; rfl)))); (all_goals (try (first | (simp only; omega)))))
  ))
 ·obtain rfl : k = T := by omega
  have hli := list_ok ns cap' (rsN ns l) (pkN' ns l) (gpF l) (by rw [hrl]; exact hF.n24) (fun x hx => hF.row x (by rw [hrl] at hx; exact hx)) s
  unfold aF at hli
  rw [hrl, lsA_eq hS, hMs] at hli
  (repeat' (first
  | (intro Q h; refine h ?_; clear h Q)
  | (refine bcase_mk (fun hb => ?_) (fun hb => ?_) <;> (try simp only [nS, nT, eq_self, reduceCtorEq] at hb) <;> (try (exfalso; (first | omega ); done)))
  | refine draw_mk (by decide +kernel) ?_
  | ((first | apply calld_detx [some 1, some 5, some 6, some 8] (hli)); (focus ((iterate 2 (all_goals (repeat' (first | exact fam_same rfl rfl rfl | exact mapa_same plA_flat rfl (fun _ _ => rfl) | exact mapa_same meA_flat rfl (fun _ _ => rfl) | exact sub_map rfl | exact subL_nil | exact trivial | (intro Q h; refine h ?_; clear h Q) | refine And.intro ?_ ?_ | refine subL_cons ?_ ?_ | refine sub_agg ?_ | exact sub_sl rfl rfl rfl | exact row_same rfl rfl rfl )))))); (any_goals (first | (apply nodup_mk2; rfl) )))
  | (apply ret_mk [some 0, some 1, some 2, some _]; (focus (iterate 2 (all_goals (repeat' (first | exact subL_nil | exact trivial | (intro Q h; refine h ?_; clear h Q) | refine And.intro ?_ ?_ | refine subL_cons ?_ ?_ | refine sub_agg ?_ | refine sub_tup ?_ | exact sub_sl rfl rfl rfl | exact sub_refl_val _ _ | exact row_same rfl rfl rfl | exact row_ren rfl rfl rfl | ((first | refine sub_int ?_ ); first | with_reducible rfl | omega | ((try simp only [wS]); omega) | rfl) ))))); (any_goals (apply okIx_mk; rfl)))
  ))
end Go.Vx.L58
set_option maxRecDepth 100000
namespace Go.Vx.L58
open Go Go.Proofs
/-- A choice: the master, and the steps. -/
structure Ch where
 m : Int
 s : Int
 deriving DecidableEq, Inhabited
def chC (c : Ch) : List AV := [.val (.int .i64 c.m), .val (.int .i64 c.s)]
instance : FlatC chC := ⟨fun x v h => by simp [chC] at h; rcases h with rfl | rfl <;> trivial⟩
abbrev ch0 : Ch := ⟨0, 0⟩
abbrev chF (l : List Ch) : Nat → Nat → AV := rowF chC ch0 l
abbrev chB (rw : Bool) (l : List Ch) : Blk := .arr rw 59 2 l.length (chF l)
set_option maxHeartbeats 4000000 in
theorem codes_ok (n : Int) (l : List Ed) (cap : Option Nat) (hl : l.length ≤ maxLen) (ns : List Nd) (cap' : Option Nat) (hn : ns.length ≤ maxLen) (hwn : ∀ x, wfD (owD (ns.getD x nd0))) (rd : Int) (ms : List Mm) (cap2 : Option Nat) (hm : ms.length ≤ maxLen) (hwm : ∀ m ∈ ms, wfD m.set) (he : enE n l ns rd ms = 0) (x : Nat) (hxl : x < ns.length) :
  Runs Tryz.prog 41 [aN n l cap ns cap', aBl rd ms cap2 2, .val (.int .i64 x)] [gB l, ndB ns, meB false ms] (Det (.tup [.sl 3 1 0 8 none, .val (.int .i64 0)]) [gB l, ndB ns, meB false ms, iB true (codL (owD (ns.getD x nd0)) (hrX (entS ms) x 8))]) := by
 have hmx : maxLen = 9223372036854775807 := by decide
 have en := (enter_ok n l cap hl ns cap' hn rd ms cap2 hm).2 he
 obtain ⟨rfl, hr1, hck, hoL⟩ := enE_zero he
 have hN : NOK ns l := ⟨hck, hwn⟩
 have hF := fok hN
 have hn24 := hF.n24
 have hS := sok_ent hoL hwm
 have hrl := prR_len ns.length l ns.length
 generalize entS ms = s at *
 have hown := own_ok ns cap' (rsN ns l) (pkN' ns l) (gpF l) x hxl
 unfold aF fB at hown
 rw [hrl] at hown
 have hhe := heard_ok s x
 have hHl := hrX_len s x 8
 have hde := decide_ok (owD (ns.getD x nd0)) (hrX s x 8) none (by omega) (hrX_wf hS x 8) (hF.wf x) (hF.cl x hxl)
 have hcl : (codL (owD (ns.getD x nd0)) (hrX s x 8)).length = 8 := by rw [codP_len]; exact hHl
 generalize codL (owD (ns.getD x nd0)) (hrX s x 8) = C at *
 generalize owD (ns.getD x nd0) = o at *
 generalize hrX s x 8 = H at *
 refine Runs.mk tabOK Tryz.call41 Tryz.func41 rfl Tryz.ntmps41 Tryz.results41 rfl ?_
 (repeat' (first
  | (intro Q h; refine h ?_; clear h Q)
  | (refine bcase_mk (fun hb => ?_) (fun hb => ?_) <;> (try simp only [nS, nT, eq_self, reduceCtorEq] at hb) <;> (try (exfalso; (first | omega ); done)))
  | refine seq_go ?_
  | ((first | apply call_detx [some 0, some 1, some 2] (en) ); (focus ((iterate 2 (all_goals (repeat' (first | exact subL_nil | exact trivial | (intro Q h; refine h ?_; clear h Q) | refine And.intro ?_ ?_ | refine subL_cons ?_ ?_ | refine sub_agg ?_ | exact sub_sl rfl rfl rfl | exact sub_refl_val _ _ | exact row_same rfl rfl rfl )))))); (any_goals (first | (apply nodup_mk; rfl) )))
  | ((first | apply call_detx [some 1, some 5, some 6] (hown) ); (focus ((iterate 2 (all_goals (repeat' (first | exact fam_ren rfl rfl rfl | exact mapa_same plA_flat rfl (fun _ _ => rfl) | exact sub_map rfl | exact subL_nil | exact trivial | (intro Q h; refine h ?_; clear h Q) | refine And.intro ?_ ?_ | refine subL_cons ?_ ?_ | refine sub_agg ?_ | exact sub_sl rfl rfl rfl | exact sub_refl_val _ _ | exact row_same rfl rfl rfl )))))); (any_goals (first | (apply nodup_mk; rfl) )))
  | ((first | apply call1 (hhe) ); (focus (iterate 2 (all_goals (repeat' (first | exact mapa_same meA_flat rfl (fun _ _ => rfl) | exact sub_map rfl | exact subL_nil | exact trivial | (intro Q h; refine h ?_; clear h Q) | refine And.intro ?_ ?_ | refine subL_cons ?_ ?_ | exact sub_refl_val _ _ ))))); (try (any_goals fail)))
  | ((first | apply call1 (hde) ); (focus (iterate 2 (all_goals (repeat' (first | exact subL_nil | exact trivial | (intro Q h; refine h ?_; clear h Q) | refine And.intro ?_ ?_ | refine subL_cons ?_ ?_ | refine sub_agg ?_ | exact sub_refl_val _ _ | exact row_ren rfl rfl rfl | ((first | refine sub_sl rfl rfl ?_ ); first | with_reducible rfl | omega | ((try simp only [wS]); omega) | rfl) ))))); (try (any_goals fail)))
  | (apply ret_mk [some 0, some 1, some 2, some _]; (focus (iterate 2 (all_goals (repeat' (first | exact subL_nil | exact trivial | (intro Q h; refine h ?_; clear h Q) | refine And.intro ?_ ?_ | refine subL_cons ?_ ?_ | refine sub_tup ?_ | exact sub_refl_val _ _ | exact row_same rfl rfl rfl | exact row_ren rfl rfl rfl | ((first | refine sub_sl rfl rfl ?_ ); first | with_reducible rfl | omega | ((try simp only [wS]); omega) | rfl) ))))); (any_goals (apply okIx_mk; rfl)))
  ))
end Go.Vx.L58
set_option maxRecDepth 100000
namespace Go.Vx.L58
open Go Go.Proofs
/-- The distances from a node. -/
def dsN (ns : List Nd) (l : List Ed) (x j : Nat) : Int := (dsA ns.length l x).getD j 0
/-- The expected master and steps of a node, among the first nodes. -/
def exC (ns : List Nd) (l : List Ed) (x i : Nat) : Nat × Int := expX (fun y => owD (ns.getD y nd0)) (dsN ns l x) x i
def exL (ns : List Nd) (l : List Ed) : Nat → List Ch
 | 0 => []
 | x + 1 => exL ns l x ++ [⟨((exC ns l x ns.length).1 : Int), (exC ns l x ns.length).2⟩]
theorem exL_len (ns : List Nd) (l : List Ed) : ∀ x, (exL ns l x).length = x
 | 0 => rfl
 | x + 1 => by rw [exL, List.length_append, exL_len ns l x]; rfl
theorem exC_lt (ns : List Nd) (l : List Ed) (x : Nat) (hx : x < ns.length) : ∀ i, i ≤ ns.length → (exC ns l x i).1 < ns.length
 | 0, _ => hx
 | i + 1, hi => by
  have ih := exC_lt ns l x hx i (by omega)
  have e : exC ns l x (i + 1) = if 0 ≤ dsN ns l x i ∧ lessD (owD (ns.getD i nd0)) (owD (ns.getD (exC ns l x i).1 nd0)) = true then (i, dsN ns l x i) else exC ns l x i := rfl
  rw [e]
  split
  ·show i < ns.length; omega
  ·exact ih
theorem start_ok (n : Int) (l : List Ed) (cap : Option Nat) (ns : List Nd) (cap' : Option Nat) :
  Runs Tryz.prog 40 [aN n l cap ns cap'] [gB l, ndB ns] (Det (.agg [.val (.int .i64 0), .val (.slice none 0 0)]) [gB l, ndB ns]) := by
 refine Runs.mk tabOK Tryz.call40 Tryz.func40 rfl Tryz.ntmps40 Tryz.results40 rfl ?_
 (repeat' (first
  | (intro Q h; refine h ?_; clear h Q)
  | (apply ret_mk [some 0, some 1]; (focus (iterate 2 (all_goals (repeat' (first | exact subL_nil | exact trivial | (intro Q h; refine h ?_; clear h Q) | refine And.intro ?_ ?_ | refine subL_cons ?_ ?_ | refine sub_agg ?_ | exact sub_refl_val _ _ | exact row_same rfl rfl rfl ))))); (any_goals (apply okIx_mk; rfl)))
  ))
set_option maxHeartbeats 4000000 in
theorem expected_ok (n : Int) (l : List Ed) (cap : Option Nat) (hl : l.length ≤ maxLen) (ns : List Nd) (cap' : Option Nat) (hn : ns.length ≤ maxLen) (hwn : ∀ x, wfD (owD (ns.getD x nd0))) :
  (ckE n l ns ≠ 0 → Runs Tryz.prog 18 [aN n l cap ns cap'] [gB l, ndB ns] (Det (.tup [.val (.slice none 0 0), .val (.int .i64 (ckE n l ns))]) [gB l, ndB ns])) ∧
  (ckE n l ns = 0 → Runs Tryz.prog 18 [aN n l cap ns cap'] [gB l, ndB ns] (Det (.tup [.sl 2 2 0 ns.length none, .val (.int .i64 0)]) [gB l, ndB ns, chB true (exL ns l ns.length)])) := by
 have hmx : maxLen = 9223372036854775807 := by decide
 have hck := echeck_ok n l cap hl ns cap' hn
 by_cases hc : ckE n l ns = 0
 rotate_left
 ·refine ⟨fun _ => ?_, fun h => absurd h hc⟩
  generalize ckE n l ns = c at *
  refine Runs.mk tabOK Tryz.call18 Tryz.func18 rfl Tryz.ntmps18 Tryz.results18 rfl ?_
  (repeat' (first
  | (intro Q h; refine h ?_; clear h Q)
  | (refine bcase_mk (fun hb => ?_) (fun hb => ?_) <;> (try simp only [nS, nT, eq_self, reduceCtorEq] at hb) <;> (try (exfalso; (first | omega ); done)))
  | refine seq_go ?_
  | ((first | apply call_detx [some 0, some 1] (hck) ); (focus ((iterate 2 (all_goals (repeat' (first | exact subL_nil | exact trivial | (intro Q h; refine h ?_; clear h Q) | refine And.intro ?_ ?_ | refine subL_cons ?_ ?_ | refine sub_agg ?_ | exact sub_sl rfl rfl rfl | exact sub_refl_val _ _ | exact row_same rfl rfl rfl )))))); (any_goals (first | (apply nodup_mk; rfl) )))
  | (apply ret_mk [some 0, some 1]; (focus (iterate 2 (all_goals (repeat' (first | exact subL_nil | exact trivial | (intro Q h; refine h ?_; clear h Q) | refine And.intro ?_ ?_ | refine subL_cons ?_ ?_ | refine sub_tup ?_ | exact sub_refl_val _ _ | exact row_same rfl rfl rfl ))))); (any_goals (apply okIx_mk; rfl)))
  ))
 refine ⟨fun h => absurd hc h, fun _ => ?_⟩
 obtain ⟨hc1, hc2, _⟩ := ckE_zero hc
 subst hc2
 have hN : NOK ns l := ⟨hc, hwn⟩
 have hF := fok hN
 have hn24 := hF.n24
 rw [hc] at hck
 have hsu := survey_ok ns.length l cap hl ns cap' rfl hc1
 have hrl := prR_len ns.length l ns.length
 obtain ⟨m', hmm, hmb, hl64, hed⟩ := ckC_parts hc1
 obtain rfl : ns.length = m' := by omega
 have hdl : ∀ a, a < ns.length → (dsA ns.length l a).length = ns.length := fun a ha => by
  unfold dsA
  rw [if_pos (hasB_of hc1 (by omega) (by omega)), Int.toNat_natCast, Int.toNat_natCast]
  exact (dsF_is hed hmb.2 ha).1.len
 refine Runs.mk tabOK Tryz.call18 Tryz.func18 rfl Tryz.ntmps18 Tryz.results18 rfl ?_
 (repeat' (first
  | (intro Q h; refine h ?_; clear h Q)
  | (refine bcase_mk (fun hb => ?_) (fun hb => ?_) <;> (try simp only [nS, nT, eq_self, reduceCtorEq] at hb) <;> (try (exfalso; fail; done)))
  | refine seq_go ?_
  | ((first | apply call_detx [some 0, some 1] (hck) ); (focus ((iterate 2 (all_goals (repeat' (first | exact subL_nil | exact trivial | (intro Q h; refine h ?_; clear h Q) | refine And.intro ?_ ?_ | refine subL_cons ?_ ?_ | refine sub_agg ?_ | exact sub_sl rfl rfl rfl | exact sub_refl_val _ _ | exact row_same rfl rfl rfl )))))); (any_goals (first | (apply nodup_mk; rfl) )))
  | ((first | apply call_detx [some 0, some 1] (hsu) ); (focus ((iterate 2 (all_goals (repeat' (first | exact subL_nil | exact trivial | (intro Q h; refine h ?_; clear h Q) | refine And.intro ?_ ?_ | refine subL_cons ?_ ?_ | refine sub_agg ?_ | exact sub_sl rfl rfl rfl | exact sub_refl_val _ _ | exact row_same rfl rfl rfl )))))); (any_goals (first | (apply nodup_mk; rfl) )))
  ))
 refine loop_inv (σ := Nat) (fun x => x ≤ ns.length) (fun x => ⟨[(1, .ptr 2 3 0 0), (5, .ptr 5 3 0 0), (6, .sl 6 2 0 x none), (20, .val (.int .i64 ns.length)), (21, .val (.int .i64 x))], [gB l, ndB ns, .var [.val (.int .i64 ns.length), .sl 0 4 0 l.length cap, .sl 1 6 0 ns.length cap'], .fam true 29 3 1 ns.length (famF intC 0 (rsN ns l)) none 0, peB (pkN' ns l) (gpF l), .var [.sl 1 6 0 ns.length cap', .sl 3 1 0 ns.length none, .map 4], chB true (exL ns l x)]⟩) (fun x => ns.length - x) (0) ?_ ?_ ?_
 ·omega
 ·(apply le_mk [some 0, some 1, some 2, some 3, some 4, some 5, none]; (focus (iterate 2 (all_goals (repeat' (first | exact fam_ren rfl rfl rfl | exact mapa_same plA_flat rfl (fun _ _ => rfl) | exact sub_map rfl | exact subL_nil | exact trivial | (intro Q h; refine h ?_; clear h Q) | refine And.intro ?_ ?_ | refine subL_cons ?_ ?_ | refine var_mk ?_ | exact sub_ptr rfl rfl | exact sub_sl rfl rfl rfl | exact sub_refl_val _ _ | exact row_same rfl rfl rfl | exact sub_nil rfl | ((first | refine virt_mk ?_ ); first | with_reducible rfl | omega | ((try simp only [wS]); omega) | rfl) ))))); (any_goals (apply okIx_mk; rfl)))
 rintro z hx
 have hlx := exL_len ns l z
 have hsx : exL ns l (z + 1) = exL ns l z ++ [⟨((exC ns l z ns.length).1 : Int), (exC ns l z ns.length).2⟩] := rfl
 by_cases hzl : z < ns.length
 ·have hd := dist_ok ns.length l cap hl z
  have hdx := hdl z hzl
  rw [hdx] at hd
  have hcl := exC_lt ns l z hzl
  have hcs : ∀ i, exC ns l z (i + 1) = if 0 ≤ (dsA ns.length l z).getD i 0 ∧ lessD (owD (ns.getD i nd0)) (owD (ns.getD (exC ns l z i).1 nd0)) = true then (i, (dsA ns.length l z).getD i 0) else exC ns l z i := fun _ => rfl
  have hc0 : exC ns l z 0 = (z, 0) := rfl
  generalize hq1 : exL ns l (z + 1) = q1 at *
  generalize exL ns l z = q at *
  generalize dsA ns.length l z = D at *
  (repeat' (first
  | (intro Q h; refine h ?_; clear h Q)
  | (refine bcase_mk (fun hb => ?_) (fun hb => ?_) <;> (try simp only [nS, nT, eq_self, reduceCtorEq] at hb) <;> (try (exfalso; (first | omega ); done)))
  | refine seq_go ?_
  | ((first | apply call1 (hd) ); (focus (iterate 2 (all_goals (repeat' (first | exact subL_nil | exact trivial | (intro Q h; refine h ?_; clear h Q) | refine And.intro ?_ ?_ | refine subL_cons ?_ ?_ | refine sub_agg ?_ | exact sub_sl rfl rfl rfl | exact sub_refl_val _ _ | exact row_same rfl rfl rfl ))))); (try (any_goals fail)))
  ))
  refine loop_inv (σ := Nat) (fun x => x ≤ ns.length) (fun x => ⟨[(1, .ptr 2 3 0 0), (5, .ptr 5 3 0 0), (6, .sl 6 2 0 z none), (8, .ptr 7 2 0 0), (20, .val (.int .i64 ns.length)), (21, .val (.int .i64 z)), (29, .sl 8 1 0 ns.length none), (30, .val (.int .i64 ns.length)), (31, .val (.int .i64 x))], [gB l, ndB ns, .var [.val (.int .i64 ns.length), .sl 0 4 0 l.length cap, .sl 1 6 0 ns.length cap'], .fam true 29 3 1 ns.length (famF intC 0 (rsN ns l)) none 0, peB (pkN' ns l) (gpF l), .var [.sl 1 6 0 ns.length cap', .sl 3 1 0 ns.length none, .map 4], chB true q, .var [.val (.int .i64 ((exC ns l z x).1 : Int)), .val (.int .i64 (exC ns l z x).2)], iB true D]⟩) (fun x => ns.length - x) (0) ?_ ?_ ?_
  ·omega
  ·rw [hc0]
   (apply le_mk [some 0, some 1, some 2, some 3, some 4, some 5, some 6, some 7, some 8]; (focus (iterate 2 (all_goals (repeat' (first | exact fam_same rfl rfl rfl | exact mapa_same plA_flat rfl (fun _ _ => rfl) | exact sub_map rfl | exact subL_nil | exact trivial | (intro Q h; refine h ?_; clear h Q) | refine And.intro ?_ ?_ | refine subL_cons ?_ ?_ | refine var_mk ?_ | exact sub_ptr rfl rfl | exact sub_sl rfl rfl rfl | exact sub_refl_val _ _ | exact row_same rfl rfl rfl | exact row_ren rfl rfl rfl ))))); (any_goals (apply okIx_mk; rfl)))
  rintro j hj
  by_cases hjl : j < ns.length
  ·have hzj : 0 + Int.toNat (j : Int) = j := by omega
   have ho1 := own_ok ns cap' (rsN ns l) (pkN' ns l) (gpF l) j hjl
   have hcj := hcl j (by omega)
   have ho2 := own_ok ns cap' (rsN ns l) (pkN' ns l) (gpF l) (exC ns l z j).1 hcj
   unfold aF fB at ho1 ho2
   rw [hrl] at ho1 ho2
   have hle := less_ok (owD (ns.getD j nd0)) (owD (ns.getD (exC ns l z j).1 nd0)) (hF.wf _) (hF.wf _)
   have hs := hcs j
   have hDj : D.getD (0 + Int.toNat (j : Int)) 0 = D.getD j 0 := by rw [hzj]
   rw [← hDj] at hs
   generalize hc' : exC ns l z (j + 1) = c' at *
   generalize exC ns l z j = c at *
   generalize owD (ns.getD j nd0) = o1 at *
   generalize owD (ns.getD c.1 nd0) = o2 at *
   by_cases hneg : 0 ≤ D.getD (0 + Int.toNat (j : Int)) 0
   ·cases hLs : lessD o1 o2
    ·rw [hLs] at hle
     rw [if_neg (by rw [hLs]; simp)] at hs
     (repeat' (first
  | (intro Q h; refine h ?_; clear h Q)
  | (with_reducible refine bcase_false ?_)
  | (refine bcase_mk (fun hb => ?_) (fun hb => ?_) <;> (try simp only [nS, nT, eq_self, reduceCtorEq] at hb) <;> (try (exfalso; (first | omega ); done)))
  | refine draw_mk (by decide +kernel) ?_
  | refine seq_go ?_
  | refine And.intro (by first | omega | ((try simp only [wS]); omega) | rfl | decide) ?_
  | ((first | apply calld_detx [some 1, some 3, some 4] (ho1)); (focus ((iterate 2 (all_goals (repeat' (first | exact fam_same rfl rfl rfl | exact mapa_same plA_flat rfl (fun _ _ => rfl) | exact sub_map rfl | exact subL_nil | exact trivial | (intro Q h; refine h ?_; clear h Q) | refine And.intro ?_ ?_ | refine subL_cons ?_ ?_ | refine sub_agg ?_ | exact sub_sl rfl rfl rfl | exact sub_refl_val _ _ | exact row_same rfl rfl rfl | refine sub_int ?_ )))); done)); (any_goals (first | (apply nodup_mk2; rfl) )))
  | ((first | apply calld_detx [some 1, some 3, some 4] (ho2)); (focus ((iterate 2 (all_goals (repeat' (first | exact fam_same rfl rfl rfl | exact mapa_same plA_flat rfl (fun _ _ => rfl) | exact sub_map rfl | exact subL_nil | exact trivial | (intro Q h; refine h ?_; clear h Q) | refine And.intro ?_ ?_ | refine subL_cons ?_ ?_ | refine sub_agg ?_ | exact sub_sl rfl rfl rfl | exact sub_refl_val _ _ | exact row_same rfl rfl rfl )))); done)); (any_goals (first | (apply nodup_mk2; rfl) )))
  | ((first | apply calld0 (hle)); (focus ((iterate 2 (all_goals (repeat' (first | exact subL_nil | refine subL_cons ?_ ?_ | refine sub_agg ?_ | exact sub_refl_val _ _ )))); done)))
  | (apply next_sub (Subtype.mk (j + 1) (by first | omega | (simp only; omega))); (focus (rw [hc', hs]; apply le_mk [some 0, some 1, some 2, some 3, some 4, some 5, some 6, some 7, some 8]; (focus (iterate 2 (all_goals (repeat' (first | exact fam_same rfl rfl rfl | exact mapa_same plA_flat rfl (fun _ _ => rfl) | exact sub_map rfl | exact subL_nil | exact trivial | (intro Q h; refine h ?_; clear h Q) | refine And.intro ?_ ?_ | refine subL_cons ?_ ?_ | refine var_mk ?_ | exact sub_ptr rfl rfl | exact sub_sl rfl rfl rfl | exact sub_refl_val _ _ | exact row_same rfl rfl rfl | ((first | refine sub_int ?_ ); first | with_reducible rfl | omega | ((try simp only [wS]); omega) | rfl) ))))); (any_goals (apply okIx_mk; rfl)))); (all_goals (try (first | (simp only; omega)))))
  ))
    ·rw [hLs] at hle
     rw [if_pos ⟨hneg, hLs⟩] at hs
     (repeat' (first
  | (intro Q h; refine h ?_; clear h Q)
  | (with_reducible refine bcase_true ?_)
  | (refine bcase_mk (fun hb => ?_) (fun hb => ?_) <;> (try simp only [nS, nT, eq_self, reduceCtorEq] at hb) <;> (try (exfalso; (first | omega ); done)))
  | refine draw_mk (by decide +kernel) ?_
  | refine seq_go ?_
  | refine And.intro (by first | omega | ((try simp only [wS]); omega) | rfl | decide) ?_
  | ((first | apply calld_detx [some 1, some 3, some 4] (ho1)); (focus ((iterate 2 (all_goals (repeat' (first | exact fam_same rfl rfl rfl | exact mapa_same plA_flat rfl (fun _ _ => rfl) | exact sub_map rfl | exact subL_nil | exact trivial | (intro Q h; refine h ?_; clear h Q) | refine And.intro ?_ ?_ | refine subL_cons ?_ ?_ | refine sub_agg ?_ | exact sub_sl rfl rfl rfl | exact sub_refl_val _ _ | exact row_same rfl rfl rfl | refine sub_int ?_ )))); done)); (any_goals (first | (apply nodup_mk2; rfl) )))
  | ((first | apply calld_detx [some 1, some 3, some 4] (ho2)); (focus ((iterate 2 (all_goals (repeat' (first | exact fam_same rfl rfl rfl | exact mapa_same plA_flat rfl (fun _ _ => rfl) | exact sub_map rfl | exact subL_nil | exact trivial | (intro Q h; refine h ?_; clear h Q) | refine And.intro ?_ ?_ | refine subL_cons ?_ ?_ | refine sub_agg ?_ | exact sub_sl rfl rfl rfl | exact sub_refl_val _ _ | exact row_same rfl rfl rfl )))); done)); (any_goals (first | (apply nodup_mk2; rfl) )))
  | ((first | apply calld0 (hle)); (focus ((iterate 2 (all_goals (repeat' (first | exact subL_nil | refine subL_cons ?_ ?_ | refine sub_agg ?_ | exact sub_refl_val _ _ )))); done)))
  | (apply next_sub (Subtype.mk (j + 1) (by first | omega | (simp only; omega))); (focus (rw [hc', hs]; apply le_mk [some 0, some 1, some 2, some 3, some 4, some 5, some 6, some 7, some 8]; (focus (iterate 2 (all_goals (repeat' (first | exact fam_same rfl rfl rfl | exact mapa_same plA_flat rfl (fun _ _ => rfl) | exact sub_map rfl | exact subL_nil | exact trivial | (intro Q h; refine h ?_; clear h Q) | refine And.intro ?_ ?_ | refine subL_cons ?_ ?_ | refine var_mk ?_ | exact sub_ptr rfl rfl | exact sub_sl rfl rfl rfl | exact sub_refl_val _ _ | exact row_same rfl rfl rfl | ((first | refine sub_int ?_ ); first | with_reducible rfl | omega | ((try simp only [wS]); omega) | rfl) ))))); (any_goals (apply okIx_mk; rfl)))); (all_goals (try (first | (simp only; omega)))))
  ))
   ·rw [if_neg (fun h => hneg h.1)] at hs
    (repeat' (first
  | (intro Q h; refine h ?_; clear h Q)
  | (refine bcase_mk (fun hb => ?_) (fun hb => ?_) <;> (try simp only [nS, nT, eq_self, reduceCtorEq] at hb) <;> (try (exfalso; (first | omega ); done)))
  | refine draw_mk (by decide +kernel) ?_
  | refine seq_go ?_
  | refine And.intro (by first | omega | ((try simp only [wS]); omega) | rfl | decide) ?_
  | (apply next_sub (Subtype.mk (j + 1) (by first | omega | (simp only; omega))); (focus (rw [hc', hs]; apply le_mk [some 0, some 1, some 2, some 3, some 4, some 5, some 6, some 7, some 8]; (focus (iterate 2 (all_goals (repeat' (first | exact fam_same rfl rfl rfl | exact mapa_same plA_flat rfl (fun _ _ => rfl) | exact sub_map rfl | exact subL_nil | exact trivial | (intro Q h; refine h ?_; clear h Q) | refine And.intro ?_ ?_ | refine subL_cons ?_ ?_ | refine var_mk ?_ | exact sub_ptr rfl rfl | exact sub_sl rfl rfl rfl | exact sub_refl_val _ _ | exact row_same rfl rfl rfl | ((first | refine sub_int ?_ ); first | with_reducible rfl | omega | ((try simp only [wS]); omega) | rfl) ))))); (any_goals (apply okIx_mk; rfl)))); (all_goals (try (first | (simp only; omega)))))
  ))
  ·obtain rfl : j = ns.length := by omega
   (repeat' (first
  | (intro Q h; refine h ?_; clear h Q)
  | (refine bcase_mk (fun hb => ?_) (fun hb => ?_) <;> (try simp only [nS, nT, eq_self, reduceCtorEq] at hb) <;> (try (exfalso; (first | omega ); done)))
  | refine And.intro (by first | omega | ((try simp only [wS]); omega) | rfl | decide) ?_
  | (apply next_sub (Subtype.mk (z + 1) (by first | omega | (simp only; omega))); (focus (rw [hq1, hsx]; apply le_mk [some 0, some 1, some 2, some 3, some 4, some 5, some _]; (focus (iterate 2 (all_goals (repeat' (first | exact fam_same rfl rfl rfl | exact mapa_same plA_flat rfl (fun _ _ => rfl) | exact sub_map rfl | exact subL_nil | exact trivial | (intro Q h; refine h ?_; clear h Q) | refine And.intro ?_ ?_ | refine subL_cons ?_ ?_ | refine var_mk ?_ | exact sub_ptr rfl rfl | exact sub_sl rfl rfl rfl | exact sub_refl_val _ _ | exact row_same rfl rfl rfl | ((first | refine sub_int ?_ | show (_ : Nat) = _); first | with_reducible rfl | omega | ((try simp only [wS]); omega) | rfl) | apply row_app1 | refine cells_succ ?_ ?_ | exact cell0 | with_reducible rfl | refine sub_int ?_ ))))); (any_goals (apply okIx_mk; rfl)))); (all_goals (try (first | (simp only; omega)))))
  ))
 ·obtain rfl : z = ns.length := by omega
  (repeat' (first
  | (intro Q h; refine h ?_; clear h Q)
  | (refine bcase_mk (fun hb => ?_) (fun hb => ?_) <;> (try simp only [nS, nT, eq_self, reduceCtorEq] at hb) <;> (try (exfalso; (first | omega ); done)))
  | (apply ret_mk [some 0, some 1, some 6]; (focus (iterate 2 (all_goals (repeat' (first | exact subL_nil | exact trivial | (intro Q h; refine h ?_; clear h Q) | refine And.intro ?_ ?_ | refine subL_cons ?_ ?_ | refine sub_tup ?_ | exact sub_sl rfl rfl rfl | exact sub_refl_val _ _ | exact row_same rfl rfl rfl ))))); (any_goals (apply okIx_mk; rfl)))
  ))
end Go.Vx.L58

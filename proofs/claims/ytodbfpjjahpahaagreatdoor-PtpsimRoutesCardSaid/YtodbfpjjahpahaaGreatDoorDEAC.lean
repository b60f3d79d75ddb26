/- Lemmas of a small executor for the model, and contracts of functions, used for the law that this claim proves. No condition. -/
import Derived.Test.YtodbfpjjahpahaaGreatDoorDW3
import Derived.Test.YtodbfpjjahpahaaGreatDoorDEAB
import Derived.Test.YtodbfpjjahpahaaGreatDoorDEPA
set_option linter.unusedSimpArgs false
set_option linter.unusedVariables false
set_option maxRecDepth 100000
namespace Go.Vx.L58
open Go Go.Proofs
def runE (m : Int) (l : List Ed) (ns : List Nd) (rd : Int) (ms : List Mm) (t : Int) : Int := if enE m l ns rd ms ≠ 0 then enE m l ns rd ms else if t < 0 ∨ 1000 < t ∨ 1073741824 < rd + t then 3 else 0
set_option maxHeartbeats 4000000 in
theorem run_ok (l : List Ed) (cap : Option Nat) (hl : l.length ≤ maxLen) (ns : List Nd) (cap' : Option Nat) (hn : ns.length ≤ maxLen) (hwn : ∀ x, wfD (owD (ns.getD x nd0))) (n : Int) (rd : Int) (ms : List Mm) (cap2 : Option Nat) (hm : ms.length ≤ maxLen) (hwm : ∀ m ∈ ms, wfD m.set) (t : Int) :
  (runE n l ns rd ms t ≠ 0 → Runs Tryz.prog 39 [aN n l cap ns cap', aBl rd ms cap2 2, .val (.int .i64 t)] [gB l, ndB ns, meB false ms] (Det (.tup [.agg [.val (.int .i64 0), .val (.slice none 0 0)], .val (.int .i64 (runE n l ns rd ms t))]) [gB l, ndB ns, meB false ms])) ∧
  (runE n l ns rd ms t = 0 → Runs Tryz.prog 39 [aN n l cap ns cap', aBl rd ms cap2 2, .val (.int .i64 t)] [gB l, ndB ns, meB false ms] (Det (.tup [aBl (rd + t) (lsX ns.length (prR ns.length l ns.length) ((netP ns l).run (memOf (entS ms)) t.toNat)) none 3, .val (.int .i64 0)]) [gB l, ndB ns, meB false ms, meB true (lsX ns.length (prR ns.length l ns.length) ((netP ns l).run (memOf (entS ms)) t.toNat))])) := by
 have hmx : maxLen = 9223372036854775807 := by decide
 obtain ⟨en1, en2⟩ := enter_ok n l cap hl ns cap' hn rd ms cap2 hm
 by_cases he : enE n l ns rd ms = 0
 rotate_left
 ·have e : runE n l ns rd ms t = enE n l ns rd ms := by unfold runE; rw [if_pos he]
  refine ⟨fun _ => ?_, fun h => absurd (e ▸ h) he⟩
  have en := en1 he
  rw [e]
  generalize enE n l ns rd ms = c at *
  refine Runs.mk tabOK Tryz.call39 Tryz.func39 rfl Tryz.ntmps39 Tryz.results39 rfl ?_
  (repeat' (first
  | (intro Q h; refine h ?_; clear h Q)
  | (refine bcase_mk (fun hb => ?_) (fun hb => ?_) <;> (try simp only [nS, nT, eq_self, reduceCtorEq] at hb) <;> (try (exfalso; omega)))
  | refine seq_go ?_
  | ((first | apply call_detx [some 0, some 1, some 2] (en) ); exact AS; any_goals (apply nodup_mk; rfl))
  | (apply ret_mk [some 0, some 1, some 2]; exact AS; any_goals (apply okIx_mk; rfl))
  ))
 have en := en2 he
 obtain ⟨h1, h2, h3⟩ := enE_zero he
 subst h1
 by_cases ht : t < 0 ∨ 1000 < t ∨ 1073741824 < rd + t
 ·have e : runE ns.length l ns rd ms t = 3 := by unfold runE; rw [if_neg (by omega), if_pos ht]
  refine ⟨fun _ => ?_, fun h => by rw [e] at h; cases h⟩
  rw [e]
  have hwr : 0 ≤ t → t ≤ 1000 → IntKind.i64.wrap (rd + t) = rd + t := fun a b => cwrap (by omega) (by omega)
  rcases ht with ht | ht | ht
  all_goals
   refine Runs.mk tabOK Tryz.call39 Tryz.func39 rfl Tryz.ntmps39 Tryz.results39 rfl ?_
   (repeat' (first
  | (intro Q h; refine h ?_; clear h Q)
  | (refine bcase_mk (fun hb => ?_) (fun hb => ?_) <;> (try simp only [nS, nT, eq_self, reduceCtorEq] at hb) <;> (try (exfalso; omega)))
  | refine seq_go ?_
  | ((first | apply call_detx [some 0, some 1, some 2] (en) ); exact AS; any_goals (apply nodup_mk; rfl))
  | (apply ret_mk [some 0, some 1, some 2]; exact AS; any_goals (apply okIx_mk; rfl))
  ))
 have e : runE ns.length l ns rd ms t = 0 := by unfold runE; rw [if_neg (by omega), if_neg ht]
 refine ⟨fun h => absurd e h, fun _ => ?_⟩
 obtain ⟨_, hr1, hck, hoL⟩ := enE_zero he
 have hN : NOK ns l := ⟨hck, hwn⟩
 have hF := fok hN
 have hS0 := sok_ent hoL hwm
 obtain ⟨T, rfl⟩ : ∃ T : Nat, t = T := ⟨t.toNat, by omega⟩
 rw [Int.toNat_natCast]
 have hwr : IntKind.i64.wrap (rd + (T : Int)) = rd + T := cwrap (by omega) (by omega)
 have hrl := prR_len ns.length l ns.length
 generalize hM0 : memOf (entS ms) = M0 at *
 generalize entS ms = s0 at *
 refine Runs.mk tabOK Tryz.call39 Tryz.func39 rfl Tryz.ntmps39 Tryz.results39 rfl ?_
 (repeat' (first
  | (intro Q h; refine h ?_; clear h Q)
  | (refine bcase_mk (fun hb => ?_) (fun hb => ?_) <;> (try simp only [nS, nT, eq_self, reduceCtorEq] at hb) <;> (try (exfalso; omega)))
  | refine seq_go ?_
  | ((first | apply call_detx [some 0, some 1, some 2] (en) ); exact AS; any_goals (apply nodup_mk; rfl))
  ))
 refine loop_inv (σ := Nat × MS) (fun x => x.1 ≤ T ∧ SOK ns (pkN' ns l) x.2 ∧ memOf x.2 = (netP ns l).run M0 x.1) (fun x => ⟨[(2, .val (.int .i64 T)), (4, .ptr 3 2 0 0), (6, .ptr 4 2 0 0), (8, .ptr 7 3 0 0), (9, .map 8), (36, .val (.int .i64 T)), (37, .val (.int .i64 x.1))], [gB l, ndB ns, meB false ms, .var [.val (.int .i64 rd), .sl 2 14 0 ms.length cap2], .var [.val (.int .i64 0), .val (.slice none 0 0)], .fam true 29 3 1 ns.length (famF intC 0 (rsN ns l)) none 0, peB (pkN' ns l) (gpF l), .var [.sl 1 6 0 ns.length cap', .sl 5 1 0 ns.length none, .map 6], mB x.2]⟩) (fun x => T - x.1) ((0, s0)) ?_ ?_ ?_
 ·exact ⟨by simp, hS0, hM0⟩
 ·(apply le_mk [some 0, some 1, some 2, some 4, some 5, some 6, some 7, some 9, some 8]; (focus (iterate 2 (all_goals (repeat' (first | exact fam_ren rfl rfl rfl | exact mapa_same plA_flat rfl (fun _ _ => rfl) | exact mapa_same meA_flat rfl (fun _ _ => rfl) | exact sub_map rfl | exact subL_nil | exact trivial | (intro Q h; refine h ?_; clear h Q) | refine And.intro ?_ ?_ | refine subL_cons ?_ ?_ | refine var_mk ?_ | exact sub_ptr rfl rfl | exact sub_sl rfl rfl rfl | exact sub_refl_val _ _ | exact row_same rfl rfl rfl ))))); any_goals (apply okIx_mk; rfl))
 rintro ⟨k, s⟩ ⟨hk, hS, hMs⟩
 simp only at hk hS hMs ⊢
 by_cases hkT : k < T
 ·have hro := round_ok ns cap' (rsN ns l) (pkN' ns l) (gpF l) hF s hS
  unfold aF at hro
  rw [hrl] at hro
  (repeat' (first
  | (intro Q h; refine h ?_; clear h Q)
  | (refine bcase_mk (fun hb => ?_) (fun hb => ?_) <;> (try simp only [nS, nT, eq_self, reduceCtorEq] at hb) <;> (try (exfalso; omega)))
  | refine seq_go ?_
  ))
  apply call_ex [some 1, some 5, some 6, some 8] hro
  ·iterate 2 (all_goals (repeat' (first | exact fam_same rfl rfl rfl | exact mapa_same plA_flat rfl (fun _ _ => rfl) | exact mapa_same meA_flat rfl (fun _ _ => rfl) | exact sub_map rfl | exact subL_nil | exact trivial | (intro Q h; refine h ?_; clear h Q) | refine And.intro ?_ ?_ | refine subL_cons ?_ ?_ | refine sub_agg ?_ | exact sub_sl rfl rfl rfl | exact row_same rfl rfl rfl )))
  ·apply nodup_mk; rfl
  intro W hW
  obtain ⟨hS', hM'⟩ := round_at hN hS hW.2
  rw [hMs] at hM'
  (repeat' (first
  | (intro Q h; refine h ?_; clear h Q)
  | (apply next_sub (Subtype.mk ((k + 1, sdA ns (rsN ns l) (gpF l) s (agS s W) ns.length)) ⟨by show k + 1 ≤ T; omega, hS', hM'⟩); (focus (skip; apply le_mk [some 0, some 1, some 2, some 3, some 4, some 5, some 6, some 7, some _]; (focus (iterate 2 (all_goals (repeat' (first | exact fam_same rfl rfl rfl | exact mapa_same plA_flat rfl (fun _ _ => rfl) | exact mapa_same meA_flat rfl (fun _ _ => rfl) | exact sub_map rfl | exact subL_nil | exact trivial | (intro Q h; refine h ?_; clear h Q) | refine And.intro ?_ ?_ | refine subL_cons ?_ ?_ | refine var_mk ?_ | exact sub_ptr rfl rfl | exact sub_sl rfl rfl rfl | exact sub_refl_val _ _ | exact row_same rfl rfl rfl | ((refine sub_int ?_); first | with_reducible rfl | omega | ((try simp only [wS]); omega) | rfl) ))))); any_goals (apply okIx_mk; rfl))); (all_goals (try (first | (simp only; omega)))))
  ))
 ·obtain rfl : k = T := by omega
  have hli := list_ok ns cap' (rsN ns l) (pkN' ns l) (gpF l) (by rw [hrl]; exact hF.n24) (fun x hx => hF.row x (by rw [hrl] at hx; exact hx)) s
  unfold aF at hli
  rw [hrl, lsA_eq hS, hMs] at hli
  (repeat' (first
  | (intro Q h; refine h ?_; clear h Q)
  | (refine bcase_mk (fun hb => ?_) (fun hb => ?_) <;> (try simp only [nS, nT, eq_self, reduceCtorEq] at hb) <;> (try (exfalso; omega)))
  | refine draw_mk (by decide +kernel) ?_
  | ((first | apply calld_detx [some 1, some 5, some 6, some 8] (hli)); (focus ((iterate 2 (all_goals (repeat' (first | exact fam_same rfl rfl rfl | exact mapa_same plA_flat rfl (fun _ _ => rfl) | exact mapa_same meA_flat rfl (fun _ _ => rfl) | exact sub_map rfl | exact subL_nil | exact trivial | (intro Q h; refine h ?_; clear h Q) | refine And.intro ?_ ?_ | refine subL_cons ?_ ?_ | refine sub_agg ?_ | exact sub_sl rfl rfl rfl | exact row_same rfl rfl rfl )))))); (any_goals (first | (apply nodup_mk2; rfl) )))
  | (apply ret_mk [some 0, some 1, some 2, some _]; exact AS; any_goals (apply okIx_mk; rfl))
  ))
end Go.Vx.L58
set_option maxRecDepth 100000
namespace Go.Vx.L58
open Go Go.Proofs
structure Ch where
 m : Int
 s : Int
 deriving DecidableEq, Inhabited
def chC (c : Ch) : List AV := [.val (.int .i64 c.m), .val (.int .i64 c.s)]
instance : FlatC chC := ⟨fun x v h => by simp [chC] at h; rcases h with rfl | rfl <;> trivial⟩
set_option maxHeartbeats 4000000 in
theorem codes_ok (n : Int) (l : List Ed) (cap : Option Nat) (hl : l.length ≤ maxLen) (ns : List Nd) (cap' : Option Nat) (hn : ns.length ≤ maxLen) (hwn : ∀ x, wfD (owD (ns.getD x nd0))) (rd : Int) (ms : List Mm) (cap2 : Option Nat) (hm : ms.length ≤ maxLen) (hwm : ∀ m ∈ ms, wfD m.set) (he : enE n l ns rd ms = 0) (x : Nat) (hxl : x < ns.length) :
  Runs Tryz.prog 41 [aN n l cap ns cap', aBl rd ms cap2 2, .val (.int .i64 x)] [gB l, ndB ns, meB false ms] (Det (.tup [.sl 3 1 0 8 none, .val (.int .i64 0)]) [gB l, ndB ns, meB false ms, iB true (codL (owD (ns.getD x nd0)) (hrX (entS ms) x 8))]) := by
 have hmx : maxLen = 9223372036854775807 := by decide
 have en := (enter_ok n l cap hl ns cap' hn rd ms cap2 hm).2 he
 obtain ⟨rfl, hr1, hck, hoL⟩ := enE_zero he
 have hN : NOK ns l := ⟨hck, hwn⟩
 have hF := fok hN
 have hn24 := hF.n24
 have hS := sok_ent hoL hwm
 have hrl := prR_len ns.length l ns.length
 generalize entS ms = s at *
 have hown := own_ok ns cap' (rsN ns l) (pkN' ns l) (gpF l) x hxl
 unfold aF fB at hown
 rw [hrl] at hown
 have hhe := heard_ok s x
 have hHl := hrX_len s x 8
 have hde := decide_ok (owD (ns.getD x nd0)) (hrX s x 8) none (by omega) (hrX_wf hS x 8) (hF.wf x) (hF.cl x hxl)
 have hcl : (codL (owD (ns.getD x nd0)) (hrX s x 8)).length = 8 := by rw [codP_len]; exact hHl
 generalize codL (owD (ns.getD x nd0)) (hrX s x 8) = C at *
 generalize owD (ns.getD x nd0) = o at *
 generalize hrX s x 8 = H at *
 refine Runs.mk tabOK Tryz.call41 Tryz.func41 rfl Tryz.ntmps41 Tryz.results41 rfl ?_
 (repeat' (first
  | (intro Q h; refine h ?_; clear h Q)
  | (refine bcase_mk (fun hb => ?_) (fun hb => ?_) <;> (try simp only [nS, nT, eq_self, reduceCtorEq] at hb) <;> (try (exfalso; omega)))
  | refine seq_go ?_
  | ((first | apply call_detx [some 0, some 1, some 2] (en) ); exact AS; any_goals (apply nodup_mk; rfl))
  | ((first | apply call_detx [some 1, some 5, some 6] (hown) ); (focus ((iterate 2 (all_goals (repeat' (first | exact fam_ren rfl rfl rfl | exact mapa_same plA_flat rfl (fun _ _ => rfl) | exact sub_map rfl | exact subL_nil | exact trivial | (intro Q h; refine h ?_; clear h Q) | refine And.intro ?_ ?_ | refine subL_cons ?_ ?_ | refine sub_agg ?_ | exact sub_sl rfl rfl rfl | exact sub_refl_val _ _ | exact row_same rfl rfl rfl )))))); any_goals (apply nodup_mk; rfl))
  | ((first | apply call1 (hhe) ); (focus (iterate 2 (all_goals (repeat' (first | exact mapa_same meA_flat rfl (fun _ _ => rfl) | exact sub_map rfl | exact subL_nil | exact trivial | (intro Q h; refine h ?_; clear h Q) | refine And.intro ?_ ?_ | refine subL_cons ?_ ?_ | exact sub_refl_val _ _ ))))); (try (any_goals fail)))
  | ((first | apply call1 (hde) ); exact AS; (try (any_goals fail)))
  | (apply ret_mk [some 0, some 1, some 2, some _]; exact AS; any_goals (apply okIx_mk; rfl))
  ))
end Go.Vx.L58
set_option maxRecDepth 100000
namespace Go.Vx.L58
open Go Go.Proofs
def dsN (ns : List Nd) (l : List Ed) (x j : Nat) : Int := (dsA ns.length l x).getD j 0
def exC (ns : List Nd) (l : List Ed) (x i : Nat) : Nat × Int := expX (fun y => owD (ns.getD y nd0)) (dsN ns l x) x i
def exL (ns : List Nd) (l : List Ed) : Nat → List Ch
 | 0 => []
 | x + 1 => exL ns l x ++ [⟨((exC ns l x ns.length).1 : Int), (exC ns l x ns.length).2⟩]
theorem start_ok (n : Int) (l : List Ed) (cap : Option Nat) (ns : List Nd) (cap' : Option Nat) :
  Runs Tryz.prog 40 [aN n l cap ns cap'] [gB l, ndB ns] (Det (.agg [.val (.int .i64 0), .val (.slice none 0 0)]) [gB l, ndB ns]) := by
 refine Runs.mk tabOK Tryz.call40 Tryz.func40 rfl Tryz.ntmps40 Tryz.results40 rfl ?_
 (repeat' (first
  | (intro Q h; refine h ?_; clear h Q)
  | (apply ret_mk [some 0, some 1]; exact AS; any_goals (apply okIx_mk; rfl))
  ))
end Go.Vx.L58

/- Lemmas of a small executor for the model, and contracts of functions, used for the law that this claim proves. No condition. -/
import Derived.Test.YtodbfpjjahpahaaGreatDoorDW3
import Derived.Test.YtodbfpjjahpahaaGreatDoorDG1
set_option linter.unusedSimpArgs false
set_option linter.unusedVariables false
set_option maxRecDepth 100000
namespace Go.Vx.L58
open Go Go.Proofs
def hasB (n : Int) (l : List Ed) (a : Int) : Bool := decide (ckC n l = 0 ∧ 0 ≤ a ∧ a < n)
theorem has_ok (n : Int) (l : List Ed) (cap : Option Nat) (hl : l.length ≤ maxLen) (a : Int) :
  Runs Tryz.prog 73 [gA n l cap, .val (.int .i64 a)] [gB l] (Det (.sb (hasB n l a)) [gB l]) := by
 refine Runs.mk tabOK Tryz.call73 Tryz.func73 rfl Tryz.ntmps73 Tryz.results73 rfl ?_
 (repeat' (first
  | (intro Q h; refine h ?_; clear h Q)
  | (refine bcase_mk (fun hb => ?_) (fun hb => ?_) <;> (try simp only [nS, nT, eq_self, reduceCtorEq] at hb))
  | ((first | apply call1 (check_ok _ _ _ hl) ); exact AS; (try (any_goals fail)))
  | (apply ret_mk [some 0]; (focus (iterate 2 (all_goals (repeat' (first | exact trivial | (intro Q h; refine h ?_; clear h Q) | refine And.intro ?_ ?_ | exact row_same rfl rfl rfl | refine sub_sb ?_ | refine sub_sbl ?_ ))))); any_goals (apply okIx_mk; rfl))
  ))
 all_goals (simp_all [hasB] <;> omega)
def peerL : List Ed → Int → Int → Int × Int × Bool
 | [], _, _ => (0, 0, false)
 | e :: r, a, p => if e.a = a ∧ e.pa = p then (e.b, e.pb, true) else if e.b = a ∧ e.pb = p then (e.a, e.pa, true) else peerL r a p
def peerF (n : Int) (l : List Ed) (a p : Int) : Int × Int × Bool := if hasB n l a then peerL l a p else (0, 0, false)
abbrev peerA (x : Int × Int × Bool) : AV := .tup [.val (.int .i64 x.1), .val (.int .i64 x.2.1), .sb x.2.2]
theorem peer_ok (n : Int) (l : List Ed) (cap : Option Nat) (hl : l.length ≤ maxLen) (a p : Int) :
  Runs Tryz.prog 72 [gA n l cap, .val (.int .i64 a), .val (.int .i64 p)] [gB l] (Det (peerA (peerF n l a p)) [gB l]) := by
 have hmx : maxLen = 9223372036854775807 := by decide
 refine Runs.mk tabOK Tryz.call72 Tryz.func72 rfl Tryz.ntmps72 Tryz.results72 rfl ?_
 (repeat' (first
  | (intro Q h; refine h ?_; clear h Q)
  | (refine bcase_mk (fun hb => ?_) (fun hb => ?_) <;> (try simp only [nS, nT, eq_self, reduceCtorEq] at hb))
  | refine seq_go ?_
  | ((first | apply call1 (has_ok _ _ _ hl _) ); exact AS; (try (any_goals fail)))
  | (apply ret_mk [some 0]; (focus (iterate 2 (all_goals (repeat' (first | exact subL_nil | exact trivial | (intro Q h; refine h ?_; clear h Q) | refine And.intro ?_ ?_ | refine subL_cons ?_ ?_ | refine sub_tup ?_ | exact row_same rfl rfl rfl | refine sub_int ?_ | refine sub_sbl ?_ ))))); any_goals (apply okIx_mk; rfl))
  ))
 all_goals (try (simp [peerF, hb]; done))
 refine loop_inv (σ := Nat) (fun x => x ≤ l.length ∧ peerL (l.drop x) a p = peerL l a p) (fun x => ⟨[(1, .val (.int .i64 a)), (2, .val (.int .i64 p)), (16, .sl 0 4 0 l.length cap), (17, .val (.int .i64 l.length)), (18, .val (.int .i64 x))], [gB l]⟩) (fun x => l.length - x) (0) ?_ ?_ ?_
 ·simp
 ·(apply le_mk [some 0]; exact AS; any_goals (apply okIx_mk; rfl))
 rintro k ⟨hk, ht⟩
 have hC : peerF n l a p = peerL l a p := by unfold peerF; rw [if_pos hb]
 have hd := drop_cons l k ed0
 clear hb
 (repeat' (first
  | (intro Q h; refine h ?_; clear h Q)
  | (refine bcase_mk (fun hb => ?_) (fun hb => ?_) <;> (try simp only [nS, nT, eq_self, reduceCtorEq] at hb))
  | refine draw_mk (by decide +kernel) ?_
  | refine seq_go ?_
  | refine And.intro (by first | omega | ((try simp only [wS]); omega) | rfl | decide) ?_
  | (apply ret_mk [some 0]; (focus (iterate 2 (all_goals (repeat' (first | exact subL_nil | exact trivial | (intro Q h; refine h ?_; clear h Q) | refine And.intro ?_ ?_ | refine subL_cons ?_ ?_ | refine sub_tup ?_ | exact row_same rfl rfl rfl | refine sub_int ?_ | refine sub_sbl ?_ ))))); any_goals (apply okIx_mk; rfl))
  | (apply next_sub (Subtype.mk (k + 1) _); (focus (apply le_mk [some 0]; (focus (iterate 2 (all_goals (repeat' (first | exact trivial | (intro Q h; refine h ?_; clear h Q) | refine And.intro ?_ ?_ | exact sub_sl rfl rfl rfl | exact sub_refl_val _ _ | exact row_same rfl rfl rfl | ((refine sub_int ?_); first | with_reducible rfl | omega | ((try simp only [wS]); omega) | rfl) ))))); any_goals (apply okIx_mk; rfl))); (all_goals (try (first | (simp only; omega)))))
  ))
 all_goals (try simp only [Nat.zero_add, Int.toNat_natCast] at *)
 all_goals (try rw [hC])
 all_goals (rw [← ht])
 all_goals first
  | (rw [hd (by omega)]; simp_all [peerL]; done)
  | (rw [List.drop_of_length_le (by omega)]; rfl)
  | fail
abbrev iB (rw : Bool) (l : List Int) : Blk := .arr rw 3 1 l.length (intF l)
end Go.Vx.L58

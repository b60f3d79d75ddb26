/- Lemmas of a small executor for the model, and contracts of functions, used for the law that this claim proves. No condition. -/
import Derived.Test.YtblcjjlggfpehaaBC41
import Derived.Test.YtblcjjlggfpehaaBC27
import Derived.Test.YtblcjjlggfpehaaBC23
import Derived.Test.YtblcjjlggfpehaaBD10
set_option linter.unusedSimpArgs false
set_option linter.unusedVariables false
set_option maxRecDepth 100000
namespace Go.Vx.L53
open Go Go.Proofs
def boC (b : Bool) : List AV := [.sb b]
instance : FlatC boC := ⟨fun x v h => by simp [boC] at h; subst h; trivial⟩
abbrev boF (l : List Bool) : Nat → Nat → AV := rowF boC false l
abbrev wB (rw : Bool) (ws : List Bool) : Blk := .arr rw 4 1 ws.length (boF ws)
theorem row_mark {ρ : Nat → Option Nat} {n n' : Nat} {F : Nat → Nat → AV} (hn : n' = n) (h0 : sub ρ (.sb true) (F 0 0)) (h1 : ∀ q, sub ρ (.sb false) (F (q + 1) 0)) :
    BSub ρ (wB true ((List.replicate n false).set 0 true)) (.arr true 4 1 n' F) := by
  refine bsub_arr (fun _ => rfl) (by simpa using hn) fun q hq j hj => ?_
  obtain rfl : j = 0 := by omega
  rcases q with _ | q
  · have e : ((List.replicate n false).set 0 true).getD 0 false = true := by
      have : 0 < n := by simpa using hq
      rw [getD_set, if_pos ⟨rfl, by simpa using this⟩]
    show sub _ (.sb (((List.replicate n false).set 0 true).getD 0 false)) _
    rw [e]; exact h0
  · have e : ((List.replicate n false).set 0 true).getD (q + 1) false = false := by
      rw [List.getD_eq_getElem?_getD, List.getElem?_set_ne (by omega), List.getElem?_replicate]; split <;> rfl
    show sub _ (.sb (((List.replicate n false).set 0 true).getD (q + 1) false)) _
    rw [e]; exact h1 q
theorem blA_len (l : List En) (c : Cf) : (blA l c).length ≤ 2 * (l.length + 1) := by
  unfold blA
  split
  · have h1 := cmp_len (srt (blE (sysA l c) (blK l c) (blK l c).length))
    rw [srt_len] at h1
    have h2 := blE_len (sysA l c) (blK l c) (blK l c).length
    have h3 : (blK l c).length ≤ l.length + 1 := by
      unfold blK cyK
      split
      · have := cyF_len (sysA l c) (pth (sysA l c) (l.length + 1)) (l.length + 1) 0
        omega
      · simp
    omega
  · simp
set_option maxHeartbeats 4000000 in
theorem offsetsBlames (l : List En) (cap : Option Nat) (hl : l.length ≤ maxLen) (c : Cf) (cap2 : Option Nat) (hc : c.tol.length ≤ maxLen) :
    Runs Try.prog 7 [aL l cap, aC c 1 cap2] [gL l, gT c] (Det (.sb true) [gL l, gT c]) := by
  have hmx : maxLen = 9223372036854775807 := by decide
  have hsh := short_ok l cap c cap2 hl hc
  by_cases h : l.length ≤ 200 ∧ c.tol.length ≤ 100
  rotate_left
  · rw [decide_eq_false h] at hsh
    refine Runs.mk tabOK Try.call7 Try.func7 rfl Try.ntmps7 Try.results7 rfl ?_
    (repeat' (first
    | (intro Q h; refine h ?_; clear h Q)
    | (refine bcase_mk (fun hb => ?_) (fun hb => ?_) <;> (try simp only [nS, nT, eq_self, reduceCtorEq] at hb) <;> (try (exfalso; (omega); done)))
    | refine seq_go ?_
    | ((first | apply call_detx [some 0, some 1] (hsh) ); (focus ((iterate 2 (all_goals (repeat' (first | exact subL_nil | exact trivial | (intro Q h; refine h ?_; clear h Q) | refine And.intro ?_ ?_ | refine subL_cons ?_ ?_ | refine sub_agg ?_ | exact sub_sl rfl rfl rfl | exact sub_refl_val _ _ | exact row_same rfl rfl rfl )))))); (any_goals (first | (apply nodup_mk; rfl) )))
    | ((first | apply call0 (awake_ok) ); (focus (iterate 2 (all_goals (repeat' (first | exact subL_nil ))))))
    | (apply ret_mk [some 0, some 1]; (focus (iterate 2 (all_goals (repeat' (first | exact trivial | (intro Q h; refine h ?_; clear h Q) | refine And.intro ?_ ?_ | exact sub_sb rfl | exact row_same rfl rfl rfl ))))); (any_goals (apply okIx_mk; rfl)))
    ))
  rw [decide_eq_true h] at hsh
  have hbl := blame_ok l cap c cap2 hl hc
  cases hO : blO l c
  · have hA : blA l c = [] := by unfold blA; rw [hO]; rfl
    rw [hO, hA] at hbl
    refine Runs.mk tabOK Try.call7 Try.func7 rfl Try.ntmps7 Try.results7 rfl ?_
    (repeat' (first
    | (intro Q h; refine h ?_; clear h Q)
    | (refine bcase_mk (fun hb => ?_) (fun hb => ?_) <;> (try simp only [nS, nT, eq_self, reduceCtorEq] at hb) <;> (try (exfalso; (omega); done)))
    | refine seq_go ?_
    | ((first | apply call_detx [some 0, some 1] (hsh) ); (focus ((iterate 2 (all_goals (repeat' (first | exact subL_nil | exact trivial | (intro Q h; refine h ?_; clear h Q) | refine And.intro ?_ ?_ | refine subL_cons ?_ ?_ | refine sub_agg ?_ | exact sub_sl rfl rfl rfl | exact sub_refl_val _ _ | exact row_same rfl rfl rfl )))))); (any_goals (first | (apply nodup_mk; rfl) )))
    | ((first | apply call_detx [some 0, some 1] (hbl) ); (focus ((iterate 2 (all_goals (repeat' (first | exact subL_nil | exact trivial | (intro Q h; refine h ?_; clear h Q) | refine And.intro ?_ ?_ | refine subL_cons ?_ ?_ | refine sub_agg ?_ | exact sub_sl rfl rfl rfl | exact sub_refl_val _ _ | exact row_same rfl rfl rfl )))))); (any_goals (first | (apply nodup_mk; rfl) )))
    | ((first | apply call0 (awake_ok) ); (focus (iterate 2 (all_goals (repeat' (first | exact subL_nil ))))))
    | (apply ret_mk [some 0, some 1]; (focus (iterate 2 (all_goals (repeat' (first | exact trivial | (intro Q h; refine h ?_; clear h Q) | refine And.intro ?_ ?_ | exact sub_sb rfl | exact row_same rfl rfl rfl | refine sub_sbl ?_ ))))); (any_goals (apply okIx_mk; rfl)))
    ))
    all_goals (exact absurd rfl hb)
  rw [hO] at hbl
  obtain ⟨h0, hcy⟩ := blO_of hO
  have hB := blA_ok hO
  have hsy := system_ok l cap c cap2 hl hc
  have hsl := sysA_len l c
  have hok := sysA_ok h0
  have hN : sysN l c = l.length + 1 := by unfold sysN; rw [if_pos h0]
  have h159 := (sys_zero h0).2.1
  have hpb := prt_bnd hO
  have hpl : (prt (blA l c) (sysA l c)).length ≤ (sysA l c).length := List.length_filter_le ..
  have hso := solve_ok ((l.length : Int) + 1) (prt (blA l c) (sysA l c)) none (by omega)
  rw [hpb] at hso
  rw [h0, hN] at hsy
  obtain ⟨b1, b2, b3, _⟩ := hB
  have hBm : ∀ b ∈ blA l c, 0 ≤ b ∧ b + 1 < ((l.length + 1 : Nat) : Int) := fun b hb => by have := b3 b hb; omega
  have hBL := blA_len l c
  have hBl : 0 < (blA l c).length := List.length_pos_iff.2 b2
  have hml := fun x => bmN_len (blA l c) (l.length + 1) x
  have hm0 : bmN (blA l c) (l.length + 1) 0 = (List.replicate (l.length + 1) false).set 0 true := rfl
  have hms : ∀ x, bmN (blA l c) (l.length + 1) (x + 1) = (bmN (blA l c) (l.length + 1) x).set ((blA l c).getD x 0 + 1).toNat true := fun _ => rfl
  have hmv := fun v h => bmN_blV hBm (v := v) h
  have hpS := fun x h => prtN_succ (B := blA l c) (l := sysA l c) (x := x) h
  have hpA := prtN_all (blA l c) (sysA l c)
  have hpL := fun x => prtN_len (blA l c) (sysA l c) x
  have hp0 : prtN (blA l c) (sysA l c) 0 = [] := rfl
  have hpP : ∀ d, prtP (blA l c) d = (blV (blA l c) d.a && blV (blA l c) d.b) := fun _ => rfl
  rw [← hpA] at hso hpl
  have hXI := fun k h0 hk => inc_lt b1 (k := k) h0 hk
  clear hpb hpA
  generalize solA ((l.length : Int) + 1) (prtN (blA l c) (sysA l c) (sysA l c).length) = SA at *
  generalize hXX : blA l c = X at *
  generalize sysA l c = A at *
  generalize bmN X (l.length + 1) = M at *
  generalize prtN X A = Q at *
  generalize prtP X = PP at *
  generalize blV X = V at *
  have hwl : IntKind.i64.wrap ((l.length : Int) + 1) = l.length + 1 := cwrap (by omega) (by omega)
  refine Runs.mk tabOK Try.call7 Try.func7 rfl Try.ntmps7 Try.results7 rfl ?_
  (repeat' (first
    | (intro Q h; refine h ?_; clear h Q)
    | (refine bcase_mk (fun hb => ?_) (fun hb => ?_) <;> (try simp only [nS, nT, eq_self, reduceCtorEq] at hb) <;> (try (exfalso; (omega); done)))
    | refine seq_go ?_
    | refine And.intro (by first | omega | ((try simp only [wS]); omega) | rfl | decide) ?_
    | ((first | apply call_detx [some 0, some 1] (hsh) ); (focus ((iterate 2 (all_goals (repeat' (first | exact subL_nil | exact trivial | (intro Q h; refine h ?_; clear h Q) | refine And.intro ?_ ?_ | refine subL_cons ?_ ?_ | refine sub_agg ?_ | exact sub_sl rfl rfl rfl | exact sub_refl_val _ _ | exact row_same rfl rfl rfl )))))); (any_goals (first | (apply nodup_mk; rfl) )))
    | ((first | apply call_detx [some 0, some 1] (hbl) ); (focus ((iterate 2 (all_goals (repeat' (first | exact subL_nil | exact trivial | (intro Q h; refine h ?_; clear h Q) | refine And.intro ?_ ?_ | refine subL_cons ?_ ?_ | refine sub_agg ?_ | exact sub_sl rfl rfl rfl | exact sub_refl_val _ _ | exact row_same rfl rfl rfl )))))); (any_goals (first | (apply nodup_mk; rfl) )))
    | ((first | apply call_detx [some 0, some 1] (hsy) ); (focus ((iterate 2 (all_goals (repeat' (first | exact subL_nil | exact trivial | (intro Q h; refine h ?_; clear h Q) | refine And.intro ?_ ?_ | refine subL_cons ?_ ?_ | refine sub_agg ?_ | exact sub_sl rfl rfl rfl | exact sub_refl_val _ _ | exact row_same rfl rfl rfl )))))); (any_goals (first | (apply nodup_mk; rfl) )))
    ))
  refine loop_inv (σ := Nat) (fun x => x ≤ X.length) (fun x => ⟨[(0, aL l cap), (5, .sl 2 1 0 X.length none), (7, .val (.int .i64 ((l.length : Int) + 1))), (8, .sl 3 3 0 A.length none), (10, .sl 4 1 0 (l.length + 1) none), (60, .sl 2 1 0 X.length none), (61, .val (.int .i64 X.length)), (62, .val (.int .i64 x))], [gL l, gT c, iB true X, cB true A, wB true (M x)]⟩) (fun x => X.length - x) (0) ?_ ?_ ?_
  · omega
  · rw [hm0]
    (apply le_mk [some 0, some 1, some 3, some 4, some 5]; (focus (iterate 2 (all_goals (repeat' (first | exact trivial | (intro Q h; refine h ?_; clear h Q) | refine And.intro ?_ ?_ | exact sub_sl rfl rfl rfl | exact sub_refl_val _ _ | exact row_same rfl rfl rfl | exact row_ren rfl rfl rfl ))))); (any_goals (apply okIx_mk; rfl)))
    all_goals first
      | exact row_mark (by omega) (sub_sbl rfl) (fun q => sub_sbl rfl)
      | fail
  rintro x hx
  have hMl := hml x
  by_cases hxl : x < X.length
  · have hz : 0 + Int.toNat (x : Int) = x := by omega
    have hb := b3 _ (getD_mem X x 0 hxl)
    have hw : 0 < x → IntKind.i64.wrap ((x : Int) - 1) = x - 1 := fun h => cwrap (by omega) (by omega)
    have hpr : 0 < x → X.getD (0 + Int.toNat (IntKind.i64.wrap ((x : Int) - 1))) 0 < X.getD (0 + Int.toNat (x : Int)) 0 := fun h => by
      rw [hw h, show 0 + Int.toNat ((x : Int) - 1) = x - 1 by omega, hz]; exact hXI x h hxl
    have hs := hms x
    rw [← hz] at hb
    have hwx : IntKind.i64.wrap (X.getD (0 + Int.toNat (x : Int)) 0 + 1) = X.getD (0 + Int.toNat (x : Int)) 0 + 1 := cwrap (by omega) (by omega)
    have hs' : M (x + 1) = (M x).set (0 + Int.toNat (IntKind.i64.wrap (X.getD (0 + Int.toNat (x : Int)) 0 + 1))) true := by rw [hwx, hz, Nat.zero_add]; exact hs
    generalize M x = U at *
    (repeat' (first
    | (intro Q h; refine h ?_; clear h Q)
    | (refine bcase_mk (fun hb => ?_) (fun hb => ?_) <;> (try simp only [nS, nT, eq_self, reduceCtorEq] at hb) <;> (try (exfalso; (omega); done)))
    | refine seq_go ?_
    | refine And.intro (by first | omega | ((try simp only [wS]); omega) | rfl | decide) ?_
    | (apply next_sub (Subtype.mk (x + 1) (by first | omega | (simp only; omega))); (focus (rw [hs']; apply le_mk [some 0, some 1, some 2, some 3, some 4]; (focus (iterate 2 (all_goals (repeat' (first | (refine row_setl rfl (subL_cons (sub_sbl rfl) subL_nil) ?_ rfl rfl rfl) | exact trivial | (intro Q h; refine h ?_; clear h Q) | refine And.intro ?_ ?_ | exact sub_sl rfl rfl rfl | exact sub_refl_val _ _ | exact row_same rfl rfl rfl | ((first | refine sub_int ?_ ); first | with_reducible rfl | omega | ((try simp only [wS]); omega) | rfl) ))))); (any_goals (apply okIx_mk; rfl)))); (all_goals (try (first | omega | (simp only; omega)))))
    ))
  have hxx : X.length = x := by omega
  have hMx : M X.length = M x := by rw [hxx]
  rw [hMx] at hmv
  generalize M x = U at *
  (repeat' (first
    | (intro Q h; refine h ?_; clear h Q)
    | (refine bcase_mk (fun hb => ?_) (fun hb => ?_) <;> (try simp only [nS, nT, eq_self, reduceCtorEq] at hb) <;> (try (exfalso; (omega); done)))
    | refine seq_go ?_
    ))
  refine loop_inv (σ := Nat) (fun x => x ≤ A.length) (fun x => ⟨[(7, .val (.int .i64 ((l.length : Int) + 1))), (10, .sl 4 1 0 (l.length + 1) none), (13, .sl 5 3 0 (Q x).length none), (93, .sl 3 3 0 A.length none), (94, .val (.int .i64 A.length)), (95, .val (.int .i64 x))], [gL l, gT c, iB true X, cB true A, wB true U, cB true (Q x)]⟩) (fun x => A.length - x) (0) ?_ ?_ ?_
  · omega
  · rw [hp0]
    (apply le_mk [some 0, some 1, some 2, some 3, some 4, none]; (focus (iterate 2 (all_goals (repeat' (first | exact trivial | (intro Q h; refine h ?_; clear h Q) | refine And.intro ?_ ?_ | exact sub_sl rfl rfl rfl | exact sub_refl_val _ _ | exact row_same rfl rfl rfl | exact sub_nil rfl | ((first | refine virt_mk ?_ ); first | with_reducible rfl | omega | ((try simp only [wS]); omega) | rfl) ))))); (any_goals (apply okIx_mk; rfl)))
  rintro y hy
  have hQl := hpL y
  by_cases hyl : y < A.length
  · have hz : 0 + Int.toNat (y : Int) = y := by omega
    obtain ⟨⟨a0, a1⟩, ⟨c0, c1⟩, _⟩ := hok _ (getD_mem A y cn0 hyl)
    have hs := hpS y hyl
    have hva := hmv _ ⟨a0, a1⟩
    have hvb := hmv _ ⟨c0, c1⟩
    rw [hpP, ← hva, ← hvb] at hs
    rw [← hz] at a0 a1 c0 c1
    have hs' : Q (y + 1) = bif (U.getD (0 + Int.toNat (A.getD (0 + Int.toNat (y : Int)) cn0).a) false && U.getD (0 + Int.toNat (A.getD (0 + Int.toNat (y : Int)) cn0).b) false) then Q y ++ [A.getD (0 + Int.toNat (y : Int)) cn0] else Q y := by rw [hz, Nat.zero_add, Nat.zero_add]; exact hs
    generalize Q y = R at *
    have hyes : U.getD (0 + Int.toNat (A.getD (0 + Int.toNat (y : Int)) cn0).a) false = true → U.getD (0 + Int.toNat (A.getD (0 + Int.toNat (y : Int)) cn0).b) false = true → Q (y + 1) = R ++ [A.getD (0 + Int.toNat (y : Int)) cn0] := fun h1 h2 => by rw [hs', h1, h2]; rfl
    have hno1 : U.getD (0 + Int.toNat (A.getD (0 + Int.toNat (y : Int)) cn0).a) false = false → Q (y + 1) = R := fun h1 => by rw [hs', h1]; rfl
    have hno2 : U.getD (0 + Int.toNat (A.getD (0 + Int.toNat (y : Int)) cn0).b) false = false → Q (y + 1) = R := fun h1 => by rw [hs', h1, Bool.and_false]; rfl
    clear hs hs' hva hvb
    (repeat' (first
    | (intro Q h; refine h ?_; clear h Q)
    | (refine bcase_mk (fun hb => ?_) (fun hb => ?_) <;> (try simp only [nS, nT, eq_self, reduceCtorEq] at hb) <;> (try (exfalso; (omega); done)))
    | refine seq_go ?_
    | refine And.intro (by first | omega | ((try simp only [wS]); omega) | rfl | decide) ?_
    | (apply next_sub (Subtype.mk (y + 1) (by first | omega | (simp only; omega))); (focus (rw [hyes (by assumption) (by assumption)]; apply le_mk [some 0, some 1, some 2, some 3, some 4, some _]; (focus (iterate 2 (all_goals (repeat' (first | exact trivial | (intro Q h; refine h ?_; clear h Q) | refine And.intro ?_ ?_ | exact sub_sl rfl rfl rfl | exact sub_refl_val _ _ | exact row_same rfl rfl rfl | ((first | refine sub_int ?_ | refine sub_sl rfl rfl ?_ | show (_ : Nat) = _); first | with_reducible rfl | omega | ((try simp only [wS]); omega) | rfl) | apply row_app1 | refine cells_succ ?_ ?_ | exact cell0 | with_reducible rfl | refine sub_sl rfl rfl ?_ ))))); (any_goals (apply okIx_mk; rfl)))); (all_goals (try (first | (simp only; omega)))))
    | (apply next_sub (Subtype.mk (y + 1) (by first | omega | (simp only; omega))); (focus (rw [hno2 (by assumption)]; apply le_mk [some 0, some 1, some 2, some 3, some 4, some _]; (focus (iterate 2 (all_goals (repeat' (first | exact trivial | (intro Q h; refine h ?_; clear h Q) | refine And.intro ?_ ?_ | exact sub_sl rfl rfl rfl | exact sub_refl_val _ _ | exact row_same rfl rfl rfl | ((first | refine sub_int ?_ ); first | with_reducible rfl | omega | ((try simp only [wS]); omega) | rfl) ))))); (any_goals (apply okIx_mk; rfl)))); (all_goals (try (first | (simp only; omega)))))
    | (apply next_sub (Subtype.mk (y + 1) (by first | omega | (simp only; omega))); (focus (rw [hno1 (by assumption)]; apply le_mk [some 0, some 1, some 2, some 3, some 4, some _]; (focus (iterate 2 (all_goals (repeat' (first | exact trivial | (intro Q h; refine h ?_; clear h Q) | refine And.intro ?_ ?_ | exact sub_sl rfl rfl rfl | exact sub_refl_val _ _ | exact row_same rfl rfl rfl | ((first | refine sub_int ?_ ); first | with_reducible rfl | omega | ((try simp only [wS]); omega) | rfl) ))))); (any_goals (apply okIx_mk; rfl)))); (all_goals (try (first | (simp only; omega)))))
    ))
    all_goals first
      | (simp; done)
      | fail
  · have hyy : y = A.length := by omega
    subst hyy
    (repeat' (first
    | (intro Q h; refine h ?_; clear h Q)
    | (refine bcase_mk (fun hb => ?_) (fun hb => ?_) <;> (try simp only [nS, nT, eq_self, reduceCtorEq] at hb) <;> (try (exfalso; (omega); done)))
    | ((first | apply call1 (hso) ); (focus (iterate 2 (all_goals (repeat' (first | exact subL_nil | exact trivial | (intro Q h; refine h ?_; clear h Q) | refine And.intro ?_ ?_ | refine subL_cons ?_ ?_ | exact sub_sl rfl rfl rfl | exact sub_refl_val _ _ | exact row_same rfl rfl rfl ))))); (try (any_goals fail)))
    | ((first | apply call0 (awake_ok) ); (focus (iterate 2 (all_goals (repeat' (first | exact subL_nil ))))))
    | (apply ret_mk [some 0, some 1]; (focus (iterate 2 (all_goals (repeat' (first | exact trivial | (intro Q h; refine h ?_; clear h Q) | refine And.intro ?_ ?_ | exact sub_sb rfl | exact row_same rfl rfl rfl ))))); (any_goals (apply okIx_mk; rfl)))
    ))
end Go.Vx.L53

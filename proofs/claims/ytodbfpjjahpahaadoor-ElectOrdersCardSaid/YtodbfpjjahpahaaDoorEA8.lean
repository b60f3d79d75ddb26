/- Lemmas of a small executor for the model, and contracts of functions, used for the law that this claim proves. No condition. -/
import Derived.Test.YtodbfpjjahpahaaDoorEA7
set_option linter.unusedSimpArgs false
set_option linter.unusedVariables false
set_option maxRecDepth 100000
namespace Go.Vx.L42
open Go Go.Proofs
/-- The used ports of the first nodes. -/
def prR (n : Int) (l : List Ed) : Nat → List (List Int)
  | 0 => []
  | x + 1 => prR n l x ++ [rpL n l x 8]
theorem prR_len (n : Int) (l : List Ed) : ∀ x, (prR n l x).length = x
  | 0 => rfl
  | x + 1 => by rw [prR, List.length_append, prR_len n l x]; rfl
theorem prR_get (n : Int) (l : List Ed) : ∀ x y, y < x → (prR n l x).getD y [] = rpL n l y 8
  | 0, y, h => by omega
  | x + 1, y, h => by
    rw [prR, List.getD_eq_getElem?_getD]
    have hl := prR_len n l x
    by_cases hy : y < x
    · rw [List.getElem?_append_left (by omega), ← List.getD_eq_getElem?_getD, prR_get n l x y hy]
    · have : y = x := by omega
      subst this
      rw [List.getElem?_append_right (by omega), hl, Nat.sub_self]; rfl
/-- The far end of the edge at a port. -/
def gpF (l : List Ed) (k : List Int) : Int × Int := ((peerL l (k.getD 0 0) (k.getD 1 0)).1, (peerL l (k.getD 0 0) (k.getD 1 0)).2.1)
/-- The keys that a node's ports add. -/
def pkN (x : Nat) (L : List Int) (ks : List (List Int)) : List (List Int) := L.foldl (fun ks p => addKey ks [(x : Int), p]) ks
def pkA (n : Int) (l : List Ed) : Nat → List (List Int)
  | 0 => []
  | x + 1 => pkN x (rpL n l x 8) (pkA n l x)
theorem rpL_len8 (n : Int) (l : List Ed) (a : Int) : (rpL n l a 8).length ≤ 8 := by
  unfold rpL
  exact Nat.le_trans (List.length_filter_le _ _) (by decide)
theorem pe_upd {ρ : Nat → Option Nat} {l : List Ed} {a p : Int} {ks : List (List Int)} {v : AV} (hv : sub ρ (plA (gpF l [a, p])) v) : BSub ρ (peB (addKey ks [a, p]) (gpF l)) (.map (some 2) (addKey ks [a, p]) (updK (fun k => plA (gpF l k)) [a, p] v)) :=
  mapa_upd plA_flat rfl hv fun _ _ _ => rfl
set_option maxHeartbeats 4000000 in
theorem survey_ok (m : Nat) (l : List Ed) (cap : Option Nat) (hl : l.length ≤ maxLen) (ns : List Nd) (cap' : Option Nat) (hm : ns.length = m) (hc : ckC m l = 0) :
    Runs Tryd.prog 22 [aN m l cap ns cap'] [gB l, ndB ns] (Det (.agg [.sl 1 6 0 ns.length cap', .sl 2 1 0 ns.length none, .map 3]) [gB l, ndB ns, .fam true 58 3 1 ns.length (famF intC 0 (prR m l ns.length)) none 0, peB (pkA m l ns.length) (gpF l)]) := by
  have hmx : maxLen = 9223372036854775807 := by decide
  obtain ⟨m', hmm, hmb, hl64, hed⟩ := ckC_parts hc
  obtain rfl : m = m' := by omega
  refine Runs.mk tabOK Tryd.call22 Tryd.func22 rfl Tryd.ntmps22 Tryd.results22 rfl ?_
  (repeat' (first
    | (intro Q h; refine h ?_; clear h Q)
    | refine seq_go ?_
    ))
  refine loop_inv (σ := Nat) (fun x => x ≤ ns.length) (fun x => ⟨[(1, .ptr 2 3 0 0), (2, .ptr 3 3 0 0), (3, .ptr 4 3 0 0), (17, .val (.int .i64 ns.length)), (18, .val (.int .i64 x))], [gB l, ndB ns, .var [.val (.int .i64 m), .sl 0 4 0 l.length cap, .sl 1 6 0 ns.length cap'], .var [.dead, .dead, .dead], .var [.sl 1 6 0 ns.length cap', .sl 5 1 0 x none, .map 6], .fam true 58 3 1 x (famF intC 0 (prR m l x)) none 0, peB (pkA m l x) (gpF l)]⟩) (fun x => ns.length - x) (0) ?_ ?_ ?_
  · omega
  · (apply le_mk [some 0, some 1, some 2, some 3, some 5, none, some 4]; (focus (iterate 2 (all_goals (repeat' (first | exact sub_dead | exact sub_map rfl | refine map_mk ?_ ?_ | exact subL_nil | exact trivial | (intro Q h; refine h ?_; clear h Q) | refine And.intro ?_ ?_ | refine subL_cons ?_ ?_ | refine var_mk ?_ | exact sub_ptr rfl rfl | exact sub_sl rfl rfl rfl | exact sub_refl_val _ _ | exact row_same rfl rfl rfl | exact sub_nil rfl | ((first | show (_ : Nat) = _); first | with_reducible rfl | omega | ((try simp only [wS]); omega) | rfl) | with_reducible rfl ))))); (any_goals (apply okIx_mk; rfl)))
    · rfl
    · intro x hx; cases hx
  rintro z hz
  by_cases hzl : z < ns.length
  · have hhz : hasB m l z = true := decide_eq_true ⟨hc, by omega, by omega⟩
    have hpo := ports_ok m l cap hl z hhz
    have hS : prR m l (z + 1) = prR m l z ++ [rpL m l z 8] := rfl
    have hP : pkA m l (z + 1) = pkN z (rpL m l z 8) (pkA m l z) := rfl
    have hL := prR_len m l z
    generalize hpk1 : pkA m l (z + 1) = K1 at *
    generalize hW : rpL m l z 8 = W at *
    generalize prR m l z = R at *
    generalize pkA m l z = K at *
    have hpe : ∀ p ∈ W, peerF m l z p = ((gpF l [(z : Int), p]).1, (gpF l [(z : Int), p]).2, true) := fun p hp => by
      rw [← hW] at hp
      have h2 : (peerF m l z p).2.2 = true := ((rpL_mem ..).1 hp).2
      have h3 : peerF m l z p = peerL l z p := by unfold peerF; rw [if_pos hhz]
      rw [h3] at h2 ⊢
      show peerL l z p = ((peerL l z p).1, (peerL l z p).2.1, true)
      rw [← h2]
    have hpr := fun p => peer_ok m l cap hl z p
    have hS' : prR m l (z + 1) = R ++ [W] := hS
    clear hS
    have hRz : (R ++ [W]).getD z [] = W := by rw [List.getD_eq_getElem?_getD, List.getElem?_append_right (by omega), hL, Nat.sub_self]; rfl
    rcases W with _ | ⟨w0, W⟩
    · have hP' : K1 = K := hP
      rw [List.length_nil] at hpo
      (repeat' (first
    | (intro Q h; refine h ?_; clear h Q)
    | refine bcase_f (by decide) ?_
    | (refine bcase_mk (fun hb => ?_) (fun hb => ?_) <;> (try simp only [nS, nT, eq_self, reduceCtorEq] at hb) <;> (try (exfalso; (first | omega ); done)))
    | refine seq_go ?_
    | refine And.intro (by first | omega | ((try simp only [wS]); omega) | rfl | decide) ?_
    | ((first | apply call1 (hpo) ); (focus (iterate 2 (all_goals (repeat' (first | exact subL_nil | exact trivial | (intro Q h; refine h ?_; clear h Q) | refine And.intro ?_ ?_ | refine subL_cons ?_ ?_ | refine sub_agg ?_ | exact sub_sl rfl rfl rfl | exact sub_refl_val _ _ | exact row_same rfl rfl rfl ))))); (try (any_goals fail)))
    | (refine loop_go 1 ?_)
    | (apply next_sub (Subtype.mk (z + 1) (by first | omega | (simp only; omega))); (focus (rw [hpk1, hP', hS']; apply le_mk [some 0, some 1, some 2, some 3, some 4, some 9, some 6]; (focus (iterate 2 (all_goals (repeat' (first | exact sub_dead | exact mapa_same plA_flat rfl (fun _ _ => rfl) | exact sub_map rfl | exact subL_nil | exact trivial | (intro Q h; refine h ?_; clear h Q) | refine And.intro ?_ ?_ | refine subL_cons ?_ ?_ | refine var_mk ?_ | exact sub_ptr rfl rfl | exact sub_sl rfl rfl rfl | exact sub_refl_val _ _ | exact row_same rfl rfl rfl | ((first | refine sub_int ?_ ); first | with_reducible rfl | omega | ((try simp only [wS]); omega) | rfl) ))))); (any_goals (apply okIx_mk; rfl)))); (all_goals (try (first | (simp only; omega)))))
    ))
      all_goals first
        | exact fam_app (l := []) (row_ren rfl rfl rfl) rfl rfl hL.symm rfl rfl
        | fail
    · generalize hWW : (w0 :: W) = WW at *
      have hWl : WW.length = W.length + 1 := by rw [← hWW]; rfl
      have hPf : K1 = WW.foldl (fun ks p => addKey ks [(z : Int), p]) K := hP
      rw [hWl] at hpo
      generalize hRR : R ++ [WW] = RR at *
      have hmx8 : WW.length ≤ 8 := by
        rw [← hW]; exact rpL_len8 _ _ _
      (repeat' (first
    | (intro Q h; refine h ?_; clear h Q)
    | (refine bcase_mk (fun hb => ?_) (fun hb => ?_) <;> (try simp only [nS, nT, eq_self, reduceCtorEq] at hb) <;> (try (exfalso; (first | omega ); done)))
    | refine seq_go ?_
    | refine And.intro (by first | omega | ((try simp only [wS]); omega) | rfl | decide) ?_
    | ((first | apply call1 (hpo) ); (focus (iterate 2 (all_goals (repeat' (first | exact subL_nil | exact trivial | (intro Q h; refine h ?_; clear h Q) | refine And.intro ?_ ?_ | refine subL_cons ?_ ?_ | refine sub_agg ?_ | exact sub_sl rfl rfl rfl | exact sub_refl_val _ _ | exact row_same rfl rfl rfl ))))); (try (any_goals fail)))
    ))
      refine loop_inv (σ := Nat) (fun x => x ≤ WW.length) (fun x => ⟨[(1, .ptr 2 3 0 0), (2, .ptr 3 3 0 0), (3, .ptr 4 3 0 0), (4, .val (.int .i64 z)), (17, .val (.int .i64 ns.length)), (18, .val (.int .i64 z)), (31, .sl 7 1 0 WW.length none), (32, .val (.int .i64 WW.length)), (33, .val (.int .i64 x))], [gB l, ndB ns, .var [.val (.int .i64 m), .sl 0 4 0 l.length cap, .sl 1 6 0 ns.length cap'], .var [.dead, .dead, .dead], .var [.sl 1 6 0 ns.length cap', .sl 5 1 0 (z + 1) none, .map 6], .fam true 58 3 1 (z + 1) (famF intC 0 RR) none 0, peB ((WW.take x).foldl (fun ks p => addKey ks [(z : Int), p]) K) (gpF l), .row 5 z]⟩) (fun x => WW.length - x) (0) ?_ ?_ ?_
      · omega
      · (apply le_mk [some 0, some 1, some 2, some 3, some 4, some 9, some 6, some 7]; (focus (iterate 2 (all_goals (repeat' (first | exact sub_dead | exact row_nm rfl rfl | exact mapa_same plA_flat rfl (fun _ _ => rfl) | exact sub_map rfl | exact subL_nil | exact trivial | (intro Q h; refine h ?_; clear h Q) | refine And.intro ?_ ?_ | refine subL_cons ?_ ?_ | refine var_mk ?_ | exact sub_ptr rfl rfl | exact sub_sl rfl rfl rfl | exact sub_refl_val _ _ | exact row_same rfl rfl rfl | ((first | refine sub_int ?_ | refine sub_sl rfl rfl ?_ ); first | with_reducible rfl | omega | ((try simp only [wS]); omega) | rfl) ))))); (any_goals (apply okIx_mk; rfl)))
        all_goals first
          | (rw [← hRR]; refine fam_app (l := WW) (row_ren rfl ?_ rfl) ?_ rfl hL.symm rfl rfl <;> omega)
          | fail
      rintro j hj
      by_cases hjW : j < WW.length
      · have hzj : 0 + Int.toNat (j : Int) = j := by omega
        have hS2 := foldl_take (fun ks p => addKey ks [(z : Int), p]) K WW j 0 hjW
        have hpe' := hpe _ (getD_mem WW j 0 hjW)
        have hpp := hpr (WW.getD j 0)
        rw [hpe'] at hpp
        have hPe : (RR.getD z []).getD (0 + Int.toNat (j : Int)) 0 = WW.getD j 0 := by rw [hRz, hzj]
        have hR2 : (famF intC 0 RR z).1 = WW.length := by rw [famF_fst, hRz]
        rw [← hPe] at hS2 hpp
        generalize hq' : (WW.take (j + 1)).foldl (fun ks p => addKey ks [(z : Int), p]) K = q' at *
        generalize (WW.take j).foldl (fun ks p => addKey ks [(z : Int), p]) K = q at *
        (repeat' (first
    | (intro Q h; refine h ?_; clear h Q)
    | (with_reducible refine bcase_true ?_)
    | (refine bcase_mk (fun hb => ?_) (fun hb => ?_) <;> (try simp only [nS, nT, eq_self, reduceCtorEq] at hb) <;> (try (exfalso; (first | omega ); done)))
    | refine seq_go ?_
    | refine And.intro (by first | omega | ((try simp only [wS]); omega) | rfl | decide) ?_
    | ((first | apply call1 (hpp) ); (focus (iterate 2 (all_goals (repeat' (first | exact subL_nil | exact trivial | (intro Q h; refine h ?_; clear h Q) | refine And.intro ?_ ?_ | refine subL_cons ?_ ?_ | refine sub_agg ?_ | exact sub_sl rfl rfl rfl | exact sub_refl_val _ _ | exact row_same rfl rfl rfl ))))); (try (any_goals fail)))
    | (apply next_sub (Subtype.mk (j + 1) (by first | omega | (simp only; omega))); (focus (rw [hq', hS2]; apply le_mk [some 0, some 1, some 2, some 3, some 4, some 5, some 6, some 7]; (focus (iterate 2 (all_goals (repeat' (first | exact sub_dead | exact fam_same rfl rfl rfl | exact row_nm rfl rfl | refine pe_upd ?_ | exact sub_map rfl | exact subL_nil | exact trivial | (intro Q h; refine h ?_; clear h Q) | refine And.intro ?_ ?_ | refine subL_cons ?_ ?_ | refine sub_agg ?_ | refine var_mk ?_ | exact sub_ptr rfl rfl | exact sub_sl rfl rfl rfl | exact sub_refl_val _ _ | exact row_same rfl rfl rfl | ((first | refine sub_int ?_ ); first | with_reducible rfl | omega | ((try simp only [wS]); omega) | rfl) ))))); (any_goals (apply okIx_mk; rfl)))); (all_goals (try (first | (simp only; omega)))))
    ))
      · obtain rfl : j = WW.length := by omega
        rw [List.take_length, ← hPf]
        (repeat' (first
    | (intro Q h; refine h ?_; clear h Q)
    | (refine bcase_mk (fun hb => ?_) (fun hb => ?_) <;> (try simp only [nS, nT, eq_self, reduceCtorEq] at hb) <;> (try (exfalso; (first | omega ); done)))
    | (apply next_sub (Subtype.mk (z + 1) (by first | omega | (simp only; omega))); (focus (rw [hpk1, hS']; apply le_mk [some 0, some 1, some 2, some 3, some 4, some 5, some 6]; (focus (iterate 2 (all_goals (repeat' (first | exact sub_dead | exact fam_same rfl rfl rfl | exact mapa_same plA_flat rfl (fun _ _ => rfl) | exact sub_map rfl | exact subL_nil | exact trivial | (intro Q h; refine h ?_; clear h Q) | refine And.intro ?_ ?_ | refine subL_cons ?_ ?_ | refine var_mk ?_ | exact sub_ptr rfl rfl | exact sub_sl rfl rfl rfl | exact sub_refl_val _ _ | exact row_same rfl rfl rfl | ((first | refine sub_int ?_ ); first | with_reducible rfl | omega | ((try simp only [wS]); omega) | rfl) ))))); (any_goals (apply okIx_mk; rfl)))); (all_goals (try (first | (simp only; omega)))))
    ))
  · obtain rfl : z = ns.length := by omega
    (repeat' (first
    | (intro Q h; refine h ?_; clear h Q)
    | (refine bcase_mk (fun hb => ?_) (fun hb => ?_) <;> (try simp only [nS, nT, eq_self, reduceCtorEq] at hb) <;> (try (exfalso; (first | omega ); done)))
    | (apply ret_mk [some 0, some 1, some 5, some 6]; (focus (iterate 2 (all_goals (repeat' (first | exact fam_same rfl rfl rfl | exact mapa_same plA_flat rfl (fun _ _ => rfl) | exact sub_map rfl | exact subL_nil | exact trivial | (intro Q h; refine h ?_; clear h Q) | refine And.intro ?_ ?_ | refine subL_cons ?_ ?_ | refine sub_agg ?_ | exact sub_sl rfl rfl rfl | exact row_same rfl rfl rfl ))))); (any_goals (apply okIx_mk; rfl)))
    ))
end Go.Vx.L42

/- Lemmas of a small executor for the model, and contracts of functions, used for the law that this claim proves. No condition. -/
import Derived.Test.YtodbfpjjahpahaaDoorEP5
set_option linter.unusedSimpArgs false
set_option linter.unusedVariables false
set_option maxRecDepth 100000
namespace Go.Vx.L42
open Go Go.Proofs
variable {ns : List Nd} {l : List Ed}
theorem lxP_len (M : Mem) (x : Nat) : ∀ (L : List Int) (acc : List Mm), (L.foldl (lxP M x) acc).length ≤ acc.length + L.length
  | [], acc => by simp
  | p :: L, acc => by
    rw [List.foldl_cons]
    have := lxP_len M x L (lxP M x acc p)
    have h2 : (lxP M x acc p).length ≤ acc.length + 1 := by
      unfold lxP; split
      · simp
      · omega
    simp only [List.length_cons]; omega
theorem lxA_len (M : Mem) : ∀ x, (lxA (rsN ns l) M x).length ≤ 8 * x
  | 0 => by simp [lxA]
  | x + 1 => by
    have h1 := lxA_len M x
    have h2 := lxP_len M x ((rsN ns l).getD x []) (lxA (rsN ns l) M x)
    have : ((rsN ns l).getD x []).length ≤ 8 := by
      by_cases hx : x < ns.length
      · rw [prR_get _ _ _ _ hx]; exact rpL_len8 _ _ _
      · rw [List.getD_eq_getElem?_getD, List.getElem?_eq_none (by rw [prR_len]; omega)]; simp
    rw [lxA]; omega
theorem lx_wf {M : Mem} (hV : VS ns l M) : ∀ m ∈ lxA (rsN ns l) M ns.length, wfD m.set := fun m hm => by
  obtain ⟨x, p, _, _, h⟩ := (lx_ok (ns := ns) (l := l) M ns.length).mem m hm
  exact (hV x p _ _ h).2
theorem enE_run (hN : NOK ns l) {M : Mem} (hV : VS ns l M) {rd : Int} (hr : 0 ≤ rd ∧ rd ≤ 1073741824) : enE ns.length l ns rd (lxA (rsN ns l) M ns.length) = 0 := by
  unfold enE
  rw [if_neg (by rw [hN.ck]; omega), if_neg (by omega), if_pos (lx_okL hV)]
theorem vs_none : VS ns l (fun _ _ => none) := fun x p a d h => by cases h
theorem vs_run (hN : NOK ns l) {s : MS} (hS : SOK ns (pkN' ns l) s) (t : Nat) : VS ns l ((netP ns l).run (memOf s) t) := by
  obtain ⟨s', h1, h2⟩ := run_VS hN s hS rfl t
  rw [← h2]; exact vs_of h1
theorem memOf_nil : memOf (entS []) = fun _ _ => none := by
  funext x p
  exact if_neg (by show ¬ (([] : List (List Int)).contains _ = true); simp)
theorem same_ok (L : List Ch) (cap cap' : Option Nat) (hl : L.length ≤ 1000) : Runs Tryd.prog 21 [.sl 0 2 0 L.length cap, .sl 1 2 0 L.length cap'] [chB false L, chB false L] (Det (.sb true) [chB false L, chB false L]) := by
  refine Runs.mk tabOK Tryd.call21 Tryd.func21 rfl Tryd.ntmps21 Tryd.results21 rfl ?_
  (repeat' (first
    | (intro Q h; refine h ?_; clear h Q)
    | (refine bcase_mk (fun hb => ?_) (fun hb => ?_) <;> (try simp only [nS, nT, eq_self, reduceCtorEq] at hb) <;> (try (exfalso; fail; done)))
    | refine seq_go ?_
    ))
  refine loop_inv (σ := Nat) (fun x => x ≤ L.length) (fun x => ⟨[(0, .sl 0 2 0 L.length cap), (1, .sl 1 2 0 L.length cap'), (12, .val (.int .i64 L.length)), (13, .val (.int .i64 x))], [chB false L, chB false L]⟩) (fun x => L.length - x) (0) ?_ ?_ ?_
  · omega
  · (apply le_mk [some 0, some 1]; (focus (iterate 2 (all_goals (repeat' (first | exact row_same rfl rfl rfl | exact trivial | (intro Q h; refine h ?_; clear h Q) | refine And.intro ?_ ?_ | exact sub_sl rfl rfl rfl | exact sub_refl_val _ _ ))))); (any_goals (apply okIx_mk; rfl)))
  rintro k hk
  (repeat' (first
    | (intro Q h; refine h ?_; clear h Q)
    | (refine bcase_mk (fun hb => ?_) (fun hb => ?_) <;> (try simp only [nS, nT, eq_self, reduceCtorEq] at hb) <;> (try (exfalso; fail; done)))
    | refine draw_mk (by decide +kernel) ?_
    | refine seq_go ?_
    | refine And.intro (by first | omega | ((try simp only [wS]); omega) | rfl | decide) ?_
    | (apply ret_mk [some 0, some 1]; (focus (iterate 2 (all_goals (repeat' (first | exact row_same rfl rfl rfl | exact trivial | (intro Q h; refine h ?_; clear h Q) | refine And.intro ?_ ?_ | exact sub_sbl rfl ))))); (any_goals (apply okIx_mk; rfl)))
    | (apply next_sub (Subtype.mk (k + 1) _); (focus (apply le_mk [some 0, some 1]; (focus (iterate 2 (all_goals (repeat' (first | exact row_same rfl rfl rfl | exact trivial | (intro Q h; refine h ?_; clear h Q) | refine And.intro ?_ ?_ | exact sub_sl rfl rfl rfl | exact sub_refl_val _ _ | ((first | refine sub_int ?_ ); first | with_reducible rfl | omega | ((try simp only [wS]); omega) | rfl) ))))); (any_goals (apply okIx_mk; rfl)))); (all_goals (try (first | omega | (simp only; omega)))))
    ))
theorem slaves_ok (L : List Int) (cap : Option Nat) (hl : L.length ≤ 1000) : Runs Tryd.prog 19 [.sl 0 1 0 L.length cap] [iB false L] (Det (.val (.int .i64 (L.countP (fun c => decide (c = 6))))) [iB false L]) := by
  refine Runs.mk tabOK Tryd.call19 Tryd.func19 rfl Tryd.ntmps19 Tryd.results19 rfl ?_
  (repeat' (first
    | (intro Q h; refine h ?_; clear h Q)
    | refine seq_go ?_
    ))
  refine loop_inv (σ := Nat) (fun x => x ≤ L.length) (fun x => ⟨[(3, .val (.int .i64 ((L.take x).countP (fun c => decide (c = 6))))), (6, .sl 0 1 0 L.length cap), (7, .val (.int .i64 L.length)), (8, .val (.int .i64 x))], [iB false L]⟩) (fun x => L.length - x) (0) ?_ ?_ ?_
  · omega
  · (apply le_mk [some 0]; (focus (iterate 2 (all_goals (repeat' (first | exact row_same rfl rfl rfl | exact trivial | (intro Q h; refine h ?_; clear h Q) | refine And.intro ?_ ?_ | exact sub_sl rfl rfl rfl | exact sub_refl_val _ _ ))))); (any_goals (apply okIx_mk; rfl)))
  rintro k hk
  have hcl := List.countP_le_length (p := fun c => decide (c = 6)) (l := L.take k)
  rw [List.length_take] at hcl
  by_cases hkl : k < L.length
  · have hz : 0 + Int.toNat (k : Int) = k := by omega
    have e1 : L.take (k + 1) = L.take k ++ [L.getD (0 + Int.toNat (k : Int)) 0] := by
      rw [hz, List.getD_eq_getElem?_getD, List.getElem?_eq_getElem hkl, Option.getD_some]; exact (List.take_append_getElem hkl).symm
    have e2 : (L.take (k + 1)).countP (fun c => decide (c = 6)) = (L.take k).countP (fun c => decide (c = 6)) + if L.getD (0 + Int.toNat (k : Int)) 0 = 6 then 1 else 0 := by
      rw [e1, List.countP_append, List.countP_singleton]
      by_cases h : L.getD (0 + Int.toNat (k : Int)) 0 = 6
      · rw [if_pos h, if_pos (decide_eq_true h)]
      · rw [if_neg h, if_neg (by rw [decide_eq_false h]; simp)]
    generalize hq : (L.take (k + 1)).countP (fun c => decide (c = 6)) = q' at *
    generalize (L.take k).countP (fun c => decide (c = 6)) = q at *
    by_cases h : L.getD (0 + Int.toNat (k : Int)) 0 = 6
    · rw [if_pos h] at e2
      (repeat' (first
    | (intro Q h; refine h ?_; clear h Q)
    | (refine bcase_mk (fun hb => ?_) (fun hb => ?_) <;> (try simp only [nS, nT, eq_self, reduceCtorEq] at hb) <;> (try (exfalso; (first | omega ); done)))
    | refine seq_go ?_
    | refine And.intro (by first | omega | ((try simp only [wS]); omega) | rfl | decide) ?_
    | (apply next_sub (Subtype.mk (k + 1) (by first | omega | (simp only; omega))); (focus (rw [hq, e2]; apply le_mk [some 0]; (focus (iterate 2 (all_goals (repeat' (first | exact row_same rfl rfl rfl | exact trivial | (intro Q h; refine h ?_; clear h Q) | refine And.intro ?_ ?_ | exact sub_sl rfl rfl rfl | exact sub_refl_val _ _ | ((first | refine sub_int ?_ ); first | with_reducible rfl | omega | ((try simp only [wS]); omega) | rfl) ))))); (any_goals (apply okIx_mk; rfl)))); (all_goals (try (first | (simp only; omega)))))
    ))
    · rw [if_neg h] at e2
      (repeat' (first
    | (intro Q h; refine h ?_; clear h Q)
    | (refine bcase_mk (fun hb => ?_) (fun hb => ?_) <;> (try simp only [nS, nT, eq_self, reduceCtorEq] at hb) <;> (try (exfalso; (first | omega ); done)))
    | refine seq_go ?_
    | refine And.intro (by first | omega | ((try simp only [wS]); omega) | rfl | decide) ?_
    | (apply next_sub (Subtype.mk (k + 1) (by first | omega | (simp only; omega))); (focus (rw [hq, e2]; apply le_mk [some 0]; (focus (iterate 2 (all_goals (repeat' (first | exact row_same rfl rfl rfl | exact trivial | (intro Q h; refine h ?_; clear h Q) | refine And.intro ?_ ?_ | exact sub_sl rfl rfl rfl | exact sub_refl_val _ _ | ((first | refine sub_int ?_ ); first | with_reducible rfl | omega | ((try simp only [wS]); omega) | rfl) ))))); (any_goals (apply okIx_mk; rfl)))); (all_goals (try (first | (simp only; omega)))))
    ))
  · obtain rfl : k = L.length := by omega
    rw [List.take_length]
    (repeat' (first
    | (intro Q h; refine h ?_; clear h Q)
    | (refine bcase_mk (fun hb => ?_) (fun hb => ?_) <;> (try simp only [nS, nT, eq_self, reduceCtorEq] at hb) <;> (try (exfalso; (first | omega ); done)))
    | (apply ret_mk [some 0]; (focus (iterate 2 (all_goals (repeat' (first | exact row_same rfl rfl rfl | exact trivial | (intro Q h; refine h ?_; clear h Q) | refine And.intro ?_ ?_ | exact sub_refl_val _ _ ))))); (any_goals (apply okIx_mk; rfl)))
    ))
abbrev eP : List Ed := [⟨0, 1, 1, 1⟩]
abbrev nP : List Nd := [⟨1, 128, 248, 0, 0, 128⟩, ⟨2, 128, 248, 0, 0, 128⟩]
theorem pair_ok : Runs Tryd.prog 37 [] [] (Det (aN 2 eP (some 1) nP (some 2)) [.arr true 66 4 1 (edF eP), .arr true 32 6 2 (ndF nP)]) := by
  refine Runs.mk tabOK Tryd.call37 Tryd.func37 rfl Tryd.ntmps37 Tryd.results37 rfl ?_
  (repeat' (first
    | (intro Q h; refine h ?_; clear h Q)
    | (apply ret_mk [some 2, some 3]; (focus (iterate 2 (all_goals (repeat' (first | exact subL_nil | exact trivial | (intro Q h; refine h ?_; clear h Q) | refine And.intro ?_ ?_ | refine subL_cons ?_ ?_ | refine sub_agg ?_ | exact sub_sl rfl rfl rfl | exact sub_refl_val _ _ | refine cells_succ ?_ ?_ | exact cell0 | (apply row_lit rfl; (focus (refine cells_succ ?_ ?_))) ))))); (any_goals (apply okIx_mk; rfl)))
    ))
theorem wf_nP : ∀ x, wfD (owD (nP.getD x nd0)) := fun x => by
  have h : nP.getD x nd0 = ⟨1, 128, 248, 0, 0, 128⟩ ∨ nP.getD x nd0 = ⟨2, 128, 248, 0, 0, 128⟩ ∨ nP.getD x nd0 = nd0 := by
    rcases x with _ | _ | x
    · exact .inl rfl
    · exact .inr (.inl rfl)
    · exact .inr (.inr rfl)
  rcases h with h | h | h <;> rw [h] <;> refine ⟨?_, ?_, ?_, ?_, ?_, ?_, ?_, ?_, ?_, ?_, ?_⟩ <;> first | (unfold inI owD; simp only; omega) | (unfold inU owD; simp only; omega)
theorem nok_nP : NOK nP eP := ⟨by decide, wf_nP⟩
theorem dP : dsN nP eP 0 0 = 0 ∧ dsN nP eP 0 1 = 1 ∧ dsN nP eP 1 0 = 1 ∧ dsN nP eP 1 1 = 0 := by
  have hD := dst_ok nok_nP
  have h00 := hD.zero 0 (by decide)
  have h11 := hD.zero 1 (by decide)
  have p01 : (netP nP eP).pe 0 1 = some (1, 1) := by decide
  have p10 : (netP nP eP).pe 1 1 = some (0, 1) := by decide
  have e1 := hD.edge 0 0 1 1 1 (by decide) p01 (by omega)
  have e2 := hD.edge 1 1 1 0 1 (by decide) p10 (by omega)
  have z1 : dsN nP eP 0 1 ≠ 0 := fun h => by have := hD.zeq 0 1 (by decide) (by decide) h; cases this
  have z2 : dsN nP eP 1 0 ≠ 0 := fun h => by have := hD.zeq 1 0 (by decide) (by decide) h; cases this
  exact ⟨h00, by omega, by omega, h11⟩
theorem exP : exL nP eP 2 = [⟨0, 0⟩, ⟨0, 1⟩] := by
  obtain ⟨d00, d01, d10, d11⟩ := dP
  have hs : ∀ x i, exC nP eP x (i + 1) = if 0 ≤ dsN nP eP x i ∧ lessD (owD (nP.getD i nd0)) (owD (nP.getD (exC nP eP x i).1 nd0)) = true then (i, dsN nP eP x i) else exC nP eP x i := fun _ _ => rfl
  have l01 : lessD (owD (nP.getD 0 nd0)) (owD (nP.getD 1 nd0)) = true := by decide
  have l10 : lessD (owD (nP.getD 1 nd0)) (owD (nP.getD 0 nd0)) = false := by decide
  have l00 : lessD (owD (nP.getD 0 nd0)) (owD (nP.getD 0 nd0)) = false := by decide
  have a1 : exC nP eP 0 1 = (0, 0) := by
    rw [hs, show exC nP eP 0 0 = (0, 0) from rfl, if_neg]
    rintro ⟨_, h⟩
    have h : lessD (owD (nP.getD 0 nd0)) (owD (nP.getD 0 nd0)) = true := h
    rw [l00] at h; cases h
  have a2 : exC nP eP 0 2 = (0, 0) := by
    rw [hs, a1, if_neg]
    rintro ⟨_, h⟩
    have h : lessD (owD (nP.getD 1 nd0)) (owD (nP.getD 0 nd0)) = true := h
    rw [l10] at h; cases h
  have b1 : exC nP eP 1 1 = (0, 1) := by
    rw [hs, show exC nP eP 1 0 = (1, 0) from rfl, d10, if_pos]
    exact ⟨by omega, l01⟩
  have b2 : exC nP eP 1 2 = (0, 1) := by
    rw [hs, b1, if_neg]
    rintro ⟨_, h⟩
    have h : lessD (owD (nP.getD 1 nd0)) (owD (nP.getD 0 nd0)) = true := h
    rw [l10] at h; cases h
  show ([] ++ [_]) ++ [_] = _
  rw [show nP.length = 2 from rfl, a2, b2]
  rfl
set_option maxHeartbeats 4000000 in
theorem awake_ok : Runs Tryd.prog 14 [] [] (Det (.sb true) []) := by
  have hpa := pair_ok
  have hst := start_ok 2 eP (some 1) nP (some 2)
  have hV := vs_run nok_nP (sok_ent (ns := nP) (l := eP) (ms := []) (by rfl) (fun m h => by cases h)) 1
  have hE := enE_run nok_nP hV (rd := 1) (by omega)
  have hml : maxLen = 9223372036854775807 := by decide
  have hMl := lxA_len (ns := nP) (l := eP) ((netP nP eP).run (memOf (entS [])) 1) nP.length
  have hwf := lx_wf hV
  rw [show nP.length = 2 from rfl] at hMl hE hwf
  have hre := result_ok 2 eP (some 1) (by decide) nP (some 2) (by decide) wf_nP 1 (lxA (rsN nP eP) ((netP nP eP).run (memOf (entS [])) 1) 2) none (by omega) hwf hE
  have hrs := rsL_starts nok_nP (t := 1) (by decide) (s := entS (lxA (rsN nP eP) ((netP nP eP).run (memOf (entS [])) 1) nP.length)) (by rw [memOf_lx nok_nP hV, memOf_nil])
  have hru := (run_ok eP (some 1) (by decide) nP (some 2) (by decide) wf_nP 2 0 [] none (by decide) (fun m h => by cases h) 1).2 (by decide)
  rw [show nP.length = 2 from rfl] at hrs hre
  rw [exP] at hrs
  rw [hrs] at hre
  rw [show ((1 : Int)).toNat = 1 from rfl] at hru
  rw [show nP.length = 2 from rfl] at hru
  generalize hM : lxA (rsN nP eP) ((netP nP eP).run (memOf (entS [])) 1) 2 = M at *
  have hM' : lsX 2 (prR ((2 : Nat) : Int) eP 2) ((netP nP eP).run (memOf (entS [])) 1) = M := hM
  rw [hM'] at hru
  clear hV hE hwf
  refine Runs.mk tabOK Tryd.call14 Tryd.func14 rfl Tryd.ntmps14 Tryd.results14 rfl ?_
  (repeat' (first
    | (intro Q h; refine h ?_; clear h Q)
    | refine bcase_t (by first | exact beq_self_eq_true _ | decide) ?_
    | refine draw_mk (by decide +kernel) ?_
    | refine seq_go ?_
    | refine And.intro (by first | omega | ((try simp only [wS]); omega) | rfl | decide) ?_
    | ((first | apply call0 (hpa) ); (focus (iterate 2 (all_goals (repeat' (first | exact subL_nil ))))))
    | ((first | apply calld_detx [some 0, some 1] (hst)); (focus ((iterate 2 (all_goals (repeat' (first | exact subL_nil | exact trivial | (intro Q h; refine h ?_; clear h Q) | refine And.intro ?_ ?_ | refine subL_cons ?_ ?_ | refine sub_agg ?_ | exact sub_sl rfl rfl rfl | exact sub_refl_val _ _ | exact row_ren rfl rfl rfl )))); done)); (any_goals (first | (apply nodup_mk2; rfl) )))
    | ((first | apply calld_detx [some 0, some 1, none] (hru)); (focus ((iterate 2 (all_goals (repeat' (first | exact subL_nil | exact trivial | (intro Q h; refine h ?_; clear h Q) | refine And.intro ?_ ?_ | refine subL_cons ?_ ?_ | refine sub_agg ?_ | exact sub_sl rfl rfl rfl | exact sub_refl_val _ _ | exact row_ren rfl rfl rfl | exact sub_nil rfl | ((first | refine virt_mk ?_ ); first | with_reducible rfl | omega | ((try simp only [wS]); omega) | rfl) )))); done)); (any_goals (first | (apply nodup_mk2; rfl) )))
    | ((first | apply call_detx [some 0, some 1, some 3] (hre) ); (focus ((iterate 2 (all_goals (repeat' (first | exact subL_nil | exact trivial | (intro Q h; refine h ?_; clear h Q) | refine And.intro ?_ ?_ | refine subL_cons ?_ ?_ | refine sub_agg ?_ | exact sub_sl rfl rfl rfl | exact sub_refl_val _ _ | exact row_ren rfl rfl rfl )))))); (any_goals (first | (apply nodup_mk; rfl) )))
    | (apply ret_mk []; (focus (iterate 2 (all_goals (repeat' (first | exact trivial | refine And.intro ?_ ?_ | exact sub_sb rfl ))))); (any_goals (apply okIx_mk; rfl)))
    ))
end Go.Vx.L42

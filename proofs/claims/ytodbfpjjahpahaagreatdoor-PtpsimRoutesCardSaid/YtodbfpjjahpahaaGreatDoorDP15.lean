/- Lemmas of a small executor for the model, and contracts of functions, used for the law that this claim proves. No condition. -/
import Derived.Test.YtodbfpjjahpahaaGreatDoorDW3
import Derived.Test.YtodbfpjjahpahaaGreatDoorDP14
import Derived.Test.YtodbfpjjahpahaaGreatDoorDPTB
set_option linter.unusedSimpArgs false
set_option linter.unusedVariables false
set_option maxRecDepth 100000
namespace Go.Vx.L58
open Go Go.Proofs Go.Vx.L58.PT
theorem rdF_bd2 {o : Osc} (h : ckO o = 0) {t : Int} (ht : 0 ≤ t ∧ t ≤ 700000000000000) : -1136000000000000 ≤ rdF o t ∧ rdF o t ≤ 1836000000000000 := by
 obtain ⟨h1, h2⟩ := ckO_ok h
 have hs := spA_ok h1
 have hl := spA_len o.sg o.sg.length
 have h3 := whS_bd (t := t) (by omega) hs o.sg.length (by omega)
 have h4 := rsS_bd (t := t) (by omega) hs o.sg.length (by omega)
 have h5 := h1.l2
 unfold rdF
 omega
structure Gp where
 node : Int
 master : Int
 measured : Int
 actual : Int
 delay : Int
 known : Bool
 deriving DecidableEq, Inhabited
def gpC (g : Gp) : List AV := [.val (.int .i64 g.node), .val (.int .i64 g.master), .val (.int .i64 g.measured), .val (.int .i64 g.actual), .val (.int .i64 g.delay), .sb g.known]
instance : FlatC gpC := ⟨fun x v h => by simp [gpC] at h; rcases h with rfl | rfl | rfl | rfl | rfl | rfl <;> trivial⟩
abbrev gp0 : Gp := ⟨0, 0, 0, 0, 0, false⟩
abbrev gpA (g : Gp) : AV := .agg [.val (.int .i64 g.node), .val (.int .i64 g.master), .val (.int .i64 g.measured), .val (.int .i64 g.actual), .val (.int .i64 g.delay), .sb g.known]
def msM (w : Wy) : Nat := (w.N.getD 0 0).toNat
def msN (w : Wy) : Nat := (w.N.getD (w.N.length - 1) 0).toNat
def msA (s : Scn) (w : Wy) (t : Int) : Int := cryT s w.N w.T t
def msB (s : Scn) (w : Wy) (t : Int) : Int := cryT s w.N.reverse w.B.reverse (msA s w t + 1000000)
def msL (s : Scn) (w : Wy) (t : Int) : Int := rdF (s.os.getD (msN w) os0) (msA s w t) - rdF (s.os.getD (msM w) os0) t - cryC s w.N w.T t
def msK (s : Scn) (w : Wy) (t : Int) : Int := rdF (s.os.getD (msM w) os0) (msB s w t) - rdF (s.os.getD (msN w) os0) (msA s w t + 1000000) - cryC s w.N.reverse w.B.reverse (msA s w t + 1000000)
def msD (s : Scn) (w : Wy) (t : Int) : Int := if (msL s w t + msK s w t) / 2 > 0 then (msL s w t + msK s w t) / 2 else 0
def msF (s : Scn) (w : Wy) (t : Int) : Gp := ⟨msN w, msM w, msL s w t - msD s w t, rdF (s.os.getD (msN w) os0) (msA s w t) - rdF (s.os.getD (msM w) os0) (msA s w t), msD s w t, true⟩
set_option maxHeartbeats 16000000 in
theorem measure_ok (s : Scn) (hs : CkOK s) (hns : s.ns.length = s.os.length) (w : Wy) (c1 c2 c3 : Option Nat) (hw : WyOK s w.N w.T) (hw' : WyOK s w.N.reverse w.B.reverse) (hN : w.N.length ≤ 1000) (hB : w.B.length ≤ 1000) (t : Int) (ht : 0 ≤ t ∧ t ≤ 562949953421312) :
  Runs Tryz.prog 22 [scA s, wyA w c1 c2 c3 8, .val (.int .i64 t)] [gB s.l, ndB s.ns, osB s.os s.hd, osR s.os s.hd, iB false s.dn, iB false s.up, blB s.tr, iB false s.st, iB false w.N, iB false w.T, iB false w.B] (Det (gpA (msF s w t)) [gB s.l, ndB s.ns, osB s.os s.hd, osR s.os s.hd, iB false s.dn, iB false s.up, blB s.tr, iB false s.st, iB false w.N, iB false w.T, iB false w.B]) := by
 have hbA := cryT_bd hs hw (t0 := t) (by omega)
 have hbB := cryT_bd hs hw' (t0 := cryT s w.N w.T t + 1000000) (by omega)
 have hnl := hw.len
 have hl1 := hw.l1
 have h24 := hw.l24
 have hn0 := hw.nd 0 (by omega)
 have hnn := hw.nd (w.N.length - 1) (by omega)
 have hcs := fun m hm hc => carry_s s hs w c1 c2 c3 hw m hm hc t (by omega)
 have hcr := fun m hm hc => carry_r s hs w c1 c2 c3 hN hB hw' m hm hc (cryT s w.N w.T t + 1000000) (by omega)
 have eM : (w.N.getD (0 + Int.toNat 0) 0) = w.N.getD 0 0 := rfl
 have eN : (w.N.getD (0 + (IntKind.i64.wrap ((w.N.length : Int) - 1)).toNat) 0) = w.N.getD (w.N.length - 1) 0 := by congr 1; rw [IntKind.wrap_i64]; omega
 have hMm : ((msM w : Nat) : Int) = w.N.getD 0 0 := by unfold msM; omega
 have hNn : ((msN w : Nat) : Int) = w.N.getD (w.N.length - 1) 0 := by unfold msN; omega
 have hM1 : msM w < s.os.length := by omega
 have hN1 : msN w < s.os.length := by omega
 unfold msF msD msL msK msB msA
 generalize cryT s w.N.reverse w.B.reverse (cryT s w.N w.T t + 1000000) = b at *
 generalize cryC s w.N.reverse w.B.reverse (cryT s w.N w.T t + 1000000) = q at *
 generalize cryC s w.N w.T t = p at *
 generalize cryT s w.N w.T t = a at *
 generalize msM w = M at *
 generalize msN w = N at *
 have hoM := hs.os M hM1
 have hoN := hs.os N hN1
 have r1 := sread_ok s M hM1 hoM t (by omega)
 have r2 := sread_ok s N hN1 hoN a (by omega)
 have r3 := sread_ok s M hM1 hoM a (by omega)
 have r4 := sread_ok s M hM1 hoM b (by omega)
 have r5 := sread_ok s N hN1 hoN (a + 1000000) (by omega)
 have b1 := rdF_bd2 hoM (t := t) (by omega)
 have b2 := rdF_bd2 hoN (t := a) (by omega)
 have b3 := rdF_bd2 hoM (t := a) (by omega)
 have b4 := rdF_bd2 hoM (t := b) (by omega)
 have b5 := rdF_bd2 hoN (t := a + 1000000) (by omega)
 generalize rdF (s.os.getD M os0) t = x1 at *
 generalize rdF (s.os.getD N os0) a = x2 at *
 generalize rdF (s.os.getD M os0) a = x3 at *
 generalize rdF (s.os.getD M os0) b = x4 at *
 generalize rdF (s.os.getD N os0) (a + 1000000) = x5 at *
 have wa : IntKind.i64.wrap (a + 1000000) = a + 1000000 := by rw [IntKind.wrap_i64]; omega
 have w1 : IntKind.i64.wrap (3900000000000000000 + x1) = 3900000000000000000 + x1 := by rw [IntKind.wrap_i64]; omega
 have w4 : IntKind.i64.wrap (3900000000000000000 + x4) = 3900000000000000000 + x4 := by rw [IntKind.wrap_i64]; omega
 have o1 := of_ok (3900000000000000000 + x1) (by omega) (by omega)
 have o4 := of_ok (3900000000000000000 + x4) (by omega) (by omega)
 have hm1 : MgOK ⟨0, 0, (s.ns.getD (0 + Int.toNat (w.N.getD (0 + Int.toNat 0) 0)) nd0).id, 0, secF (3900000000000000000 + x1), nanF (3900000000000000000 + x1), 0, 0⟩ := ⟨by show (0 : Int) ≤ 0 ∧ (0 : Int) ≤ 65535; omega, by show 0 ≤ secF _ ∧ secF _ ≤ _; unfold secF; omega, by show 0 ≤ nanF _ ∧ nanF _ < _; unfold nanF; omega, by show (0 : Int) ≤ 0 ∧ (0 : Int) ≤ 65535; omega, .inl ⟨.inl rfl, rfl, rfl⟩⟩
 have hm2 : MgOK ⟨1, 0, (s.ns.getD (0 + Int.toNat (w.N.getD (0 + (IntKind.i64.wrap ((w.N.length : Int) - 1)).toNat) 0)) nd0).id, 0, 0, 0, 0, 0⟩ := ⟨by show (0 : Int) ≤ 0 ∧ (0 : Int) ≤ 65535; omega, by show (0 : Int) ≤ 0 ∧ (0 : Int) ≤ 281474976710655; omega, by show (0 : Int) ≤ 0 ∧ (0 : Int) < 1000000000; omega, by show (0 : Int) ≤ 0 ∧ (0 : Int) ≤ 65535; omega, .inl ⟨.inr rfl, rfl, rfl⟩⟩
 have hm1' : MgOK (addM ⟨0, 0, (s.ns.getD (0 + Int.toNat (w.N.getD (0 + Int.toNat 0) 0)) nd0).id, 0, secF (3900000000000000000 + x1), nanF (3900000000000000000 + x1), 0, 0⟩ p) := ⟨hm1.seq, hm1.sec, hm1.nano, hm1.rp, hm1.kind⟩
 have hm9 : MgOK ⟨9, 0 + q * 65536, (s.ns.getD (0 + Int.toNat (w.N.getD (0 + Int.toNat 0) 0)) nd0).id, 0, secF (3900000000000000000 + x4), nanF (3900000000000000000 + x4), (s.ns.getD (0 + Int.toNat (w.N.getD (0 + (IntKind.i64.wrap ((w.N.length : Int) - 1)).toNat) 0)) nd0).id, 1⟩ := ⟨by show (0 : Int) ≤ 0 ∧ (0 : Int) ≤ 65535; omega, by show 0 ≤ secF _ ∧ secF _ ≤ _; unfold secF; omega, by show 0 ≤ nanF _ ∧ nanF _ < _; unfold nanF; omega, by show (0 : Int) ≤ 1 ∧ (1 : Int) ≤ 65535; omega, .inr rfl⟩
 have cs := hcs _ hm1 rfl
 have cr := hcr _ hm2 rfl
 have z0 : (0 + p * 65536) / 65536 = p := by omega
 have z1 : (0 + q * 65536) / 65536 = q := by omega
 have ex1 := sync_ok x0 _ hm1' rfl (by show 0 ≤ 0 + p * 65536 ∧ 0 + p * 65536 ≤ _; omega) x1 (by omega) rfl rfl x2 (by omega) (by omega)
 have ex2 := request_ok ⟨true, x1, x2, (0 + p * 65536) / 65536, false, 0, 0, false, 0⟩ 0 x5 (by omega) (by omega)
 have ex3 := response_ok ⟨true, x1, x2, (0 + p * 65536) / 65536, true, 0, x5, false, 0⟩ _ hm9 rfl rfl rfl rfl (by show 0 ≤ 0 + q * 65536 ∧ 0 + q * 65536 ≤ _; omega) (by show _ ≤ x1 ∧ x1 ≤ _; omega) (by show _ ≤ x2 ∧ x2 ≤ _; omega) (by show _ ≤ x5 ∧ x5 ≤ _; omega) (by show 0 ≤ (0 + p * 65536) / 65536 ∧ (0 + p * 65536) / 65536 ≤ _; omega) x4 (by show _ ≤ x4 ∧ x4 ≤ _; omega) rfl rfl
 have hde : deF ⟨true, x1, x2, (0 + p * 65536) / 65536, true, 0, x5, false, 0⟩ x4 ((0 + q * 65536) / 65536) = if (x2 - x1 - p + (x4 - x5 - q)) / 2 > 0 then (x2 - x1 - p + (x4 - x5 - q)) / 2 else 0 := by
  rw [z0, z1]
 have hdb : 0 ≤ deF ⟨true, x1, x2, (0 + p * 65536) / 65536, true, 0, x5, false, 0⟩ x4 ((0 + q * 65536) / 65536) ∧ deF ⟨true, x1, x2, (0 + p * 65536) / 65536, true, 0, x5, false, 0⟩ x4 ((0 + q * 65536) / 65536) ≤ 4503599627370496 := by
  rw [hde]; split <;> omega
 rw [← hde]
 have hdd : deF ⟨true, x1, x2, (0 + p * 65536) / 65536, true, 0, x5, false, 0⟩ x4 ((⟨9, 0 + q * 65536, (s.ns.getD (0 + Int.toNat (w.N.getD (0 + Int.toNat 0) 0)) nd0).id, 0, secF (3900000000000000000 + x4), nanF (3900000000000000000 + x4), (s.ns.getD (0 + Int.toNat (w.N.getD (0 + (IntKind.i64.wrap ((w.N.length : Int) - 1)).toNat) 0)) nd0).id, 1⟩ : Mg).corr / 65536) = deF ⟨true, x1, x2, (0 + p * 65536) / 65536, true, 0, x5, false, 0⟩ x4 ((0 + q * 65536) / 65536) := rfl
 rw [hdd] at ex3
 generalize deF ⟨true, x1, x2, (0 + p * 65536) / 65536, true, 0, x5, false, 0⟩ x4 ((0 + q * 65536) / 65536) = de at *
 have ex4 := offset_ok ⟨true, x1, x2, (0 + p * 65536) / 65536, false, 0, x5, true, de⟩ rfl (by show _ ≤ x1 ∧ x1 ≤ _; omega) (by show _ ≤ x2 ∧ x2 ≤ _; omega) (by show 0 ≤ (0 + p * 65536) / 65536 ∧ (0 + p * 65536) / 65536 ≤ _; omega) (by show 0 ≤ de ∧ de ≤ _; omega)
 have ex5 := delay_ok ⟨true, x1, x2, (0 + p * 65536) / 65536, false, 0, x5, true, de⟩ rfl
 have hnw := new_ok
 have z2 : leadF ⟨true, x1, x2, (0 + p * 65536) / 65536, false, 0, x5, true, de⟩ = x2 - x1 - p := by
  show x2 - x1 - (0 + p * 65536) / 65536 = _; rw [z0]
 rw [z2] at ex4
 refine Runs.mk tabOK Tryz.call22 Tryz.func22 rfl Tryz.ntmps22 Tryz.results22 rfl ?_
 (repeat' (first
  | (intro Q h; refine h ?_; clear h Q)
  | (refine bcase_mk (fun hb => ?_) (fun hb => ?_) <;> (try simp only [nS, nT, eq_self, reduceCtorEq] at hb) <;> (try (exfalso; omega)))
  | refine draw_mk (by decide +kernel) ?_
  | refine seq_go ?_
  | refine And.intro (by first | omega | ((try simp only [wS]); omega) | rfl | decide) ?_
  | ((first | apply call_detx [some 0, some 1, some 2, some 3, some 4, some 5, some 6, some 7] (r1) | apply calld_detx [some 0, some 1, some 2, some 3, some 4, some 5, some 6, some 7] (r1)); exact AS; any_goals (apply nodup_mk; rfl))
  | ((first | apply call_detx [some 0, some 1, some 2, some 3, some 4, some 5, some 6, some 7] (r2) | apply calld_detx [some 0, some 1, some 2, some 3, some 4, some 5, some 6, some 7] (r2)); exact AS; (any_goals (first | (apply nodup_mk2; rfl) )))
  | ((first | apply call_detx [some 0, some 1, some 2, some 3, some 4, some 5, some 6, some 7] (r3) | apply calld_detx [some 0, some 1, some 2, some 3, some 4, some 5, some 6, some 7] (r3)); exact AS; (any_goals (first | (apply nodup_mk2; rfl) )))
  | ((first | apply call_detx [some 0, some 1, some 2, some 3, some 4, some 5, some 6, some 7] (r4) | apply calld_detx [some 0, some 1, some 2, some 3, some 4, some 5, some 6, some 7] (r4)); exact AS; any_goals (apply nodup_mk; rfl))
  | ((first | apply calld_detx [some 0, some 1, some 2, some 3, some 4, some 5, some 6, some 7] (r5)); exact AS; (any_goals (first | (apply nodup_mk2; rfl) )))
  | ((first | apply call0 (o1) ); exact AS)
  | ((first | apply call0 (o4) ); exact AS)
  | ((first | apply call_detx [some 0, some 1, some 2, some 3, some 4, some 5, some 6, some 7, some 8, some 9, some 10, some 15] (cs) ); exact AS; any_goals (apply nodup_mk; rfl))
  | ((first | apply call_detx [some 0, some 1, some 2, some 3, some 4, some 5, some 6, some 7, some 8, some 9, some 10, some 16] (cr) ); exact AS; any_goals (apply nodup_mk; rfl))
  | ((first | apply call0 (hnw) ); exact AS)
  | ((first | apply calld_detx [some 18] (ex1)); exact AS; (any_goals (first | (apply nodup_mk2; rfl) )))
  | ((first | apply calld_detx [some 18] (ex2)); exact AS; (any_goals (first | (apply nodup_mk2; rfl) )))
  | ((first | apply calld_detx [some 18] (ex3)); exact AS; (any_goals (first | (apply nodup_mk2; rfl) )))
  | ((first | apply call_detx [some 18] (ex4) ); exact AS; any_goals (apply nodup_mk; rfl))
  | ((first | apply call_detx [some 18] (ex5) ); exact AS; any_goals (apply nodup_mk; rfl))
  | (apply ret_mk [some 0, some 1, some 2, some 3, some 4, some 5, some 6, some 7, some 8, some 9, some 10]; (focus (iterate 2 (all_goals (repeat' (first | exact rows_same rfl rfl rfl rfl | exact os_same rfl rfl rfl rfl | exact subL_nil | exact trivial | (intro Q h; refine h ?_; clear h Q) | refine And.intro ?_ ?_ | refine subL_cons ?_ ?_ | refine sub_agg ?_ | exact sub_refl_val _ _ | exact sub_sbl rfl | exact row_same rfl rfl rfl | ((refine sub_int ?_); first | with_reducible rfl | omega | ((try simp only [wS]); omega) | rfl) | refine sub_int ?_ ))))); any_goals (apply okIx_mk; rfl))
  ))
 all_goals exact eN.trans hNn.symm
end Go.Vx.L58

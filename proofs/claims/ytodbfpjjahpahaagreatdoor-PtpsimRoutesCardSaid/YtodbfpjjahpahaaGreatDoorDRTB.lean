/- Lemmas of a small executor for the model, and contracts of functions, used for the law that this claim proves. No condition. -/
import Derived.Test.YtodbfpjjahpahaaGreatDoorDRTA
import Derived.Test.YtodbfpjjahpahaaGreatDoorDW3
import Derived.Test.YtodbfpjjahpahaaGreatDoorDPTR
import Derived.Test.YtodbfpjjahpahaaGreatDoorDP16
set_option linter.unusedSimpArgs false
set_option linter.unusedVariables false
set_option maxRecDepth 100000
namespace Go.Vx.L58
open Go Go.Proofs
def MOK (ns : List Nd) (l : List Ed) (M : Mem) : Prop := ∃ s, SOK ns (pkN' ns l) s ∧ memOf s = M
abbrev M0 : Mem := memOf (entS [])
variable {ns : List Nd} {l : List Ed} {M : Mem}
theorem MOK.vs (h : MOK ns l M) : VS ns l M := by
 obtain ⟨s, h1, rfl⟩ := h; exact vs_of h1
theorem MOK.wf (h : MOK ns l M) (x : Nat) : wfP (hrd M x) := by
 obtain ⟨s, h1, rfl⟩ := h
 rw [← hrX_hrd]; exact hrX_wf h1 _ _
theorem MOK.st (h : MOK ns l M) (x : Nat) : 0 ≤ ((netP ns l).fol M x).st ∧ ((netP ns l).fol M x).st < 32 := by
 obtain ⟨s, h1, rfl⟩ := h
 unfold NetP.fol
 rw [← hrX_hrd]; exact fol_st h1 _ rfl _
theorem MOK.zero : MOK ns l M0 := ⟨entS [], sok_ent (by rfl) (fun m hm => by cases hm), rfl⟩
theorem MOK.run (hN : NOK ns l) (t : Nat) : MOK ns l ((netP ns l).run M0 t) := run_VS hN (entS []) (sok_ent (by rfl) (fun m hm => by cases hm)) rfl t
def sdB (G : NetP) (M : Mem) (y q : Nat) : Bool := ann (G.cod M y (q - 1)) && (decide (G.fol M y = G.ow y) || decide ((G.fol M y).st + 1 < 32))
def sdD (G : NetP) (M : Mem) (y q x p : Nat) : DS := if ann (G.cod M y (q - 1)) = true then
 if G.fol M y = G.ow y then { G.ow y with se := G.id y, sp := q, re := G.id x, rp := p } else { G.fol M y with st := (G.fol M y).st + 1, se := G.id y, sp := q, re := G.id x, rp := p } else default
theorem snd_eq (G : NetP) (M : Mem) (y q x p : Nat) : G.snd M y q x p = if sdB G M y q = true then some (sdD G M y q x p) else none := by
 unfold NetP.snd sdB sdD
 cases ann (G.cod M y (q - 1))
 ·simp
 ·by_cases h : G.fol M y = G.ow y
  ·simp [h]
  ·by_cases h2 : (G.fol M y).st + 1 < 32
   ·simp [h, h2]
   ·simp [h, h2]
theorem rnd_no {G : NetP} {M : Mem} {x p : Nat} (h : G.pe x p = none) : mm1 (G.rnd M) x p = [] := by
 unfold mm1 NetP.rnd; rw [h]
theorem rnd_came {G : NetP} {M : Mem} {x p y q : Nat} (h : G.pe x p = some (y, q)) (hs : sdB G M y q = true) : mm1 (G.rnd M) x p = [⟨x, p, 0, sdD G M y q x p⟩] := by
 unfold mm1 NetP.rnd; rw [h]
 simp only
 rw [snd_eq, if_pos hs]
theorem rnd_kept {G : NetP} {M : Mem} {x p y q : Nat} (h : G.pe x p = some (y, q)) (hs : sdB G M y q = false) {a : Int} {d : DS} (hm : M x p = some (a, d)) (ha : a + 1 < 3) : mm1 (G.rnd M) x p = [⟨x, p, a + 1, d⟩] := by
 unfold mm1 NetP.rnd; rw [h]
 simp only
 rw [snd_eq, if_neg (by rw [hs]; simp), hm]
 simp only
 rw [if_pos ha]
theorem rnd_old {G : NetP} {M : Mem} {x p y q : Nat} (h : G.pe x p = some (y, q)) (hs : sdB G M y q = false) {a : Int} {d : DS} (hm : M x p = some (a, d)) (ha : ¬ a + 1 < 3) : mm1 (G.rnd M) x p = [] := by
 unfold mm1 NetP.rnd; rw [h]
 simp only
 rw [snd_eq, if_neg (by rw [hs]; simp), hm]
 simp only
 rw [if_neg ha]
theorem rnd_none {G : NetP} {M : Mem} {x p y q : Nat} (h : G.pe x p = some (y, q)) (hs : sdB G M y q = false) (hm : M x p = none) : mm1 (G.rnd M) x p = [] := by
 unfold mm1 NetP.rnd; rw [h]
 simp only
 rw [snd_eq, if_neg (by rw [hs]; simp), hm]
theorem ml_step {x k : Nat} {A : List Mm} (h : LX M A ((x : Int), (k : Int) + 1)) : LX M (A ++ mm1 M x (k + 1)) ((x : Int), ((k + 1 : Nat) : Int) + 1) := by
 unfold mm1
 cases hm : M x (k + 1) with
 | none =>
  simp only [List.append_nil]
  exact h.up (.inl (.inr ⟨rfl, by simp only; omega⟩))
 | some v =>
  simp only
  refine ⟨fun m hx => ?_, fun m hx => ?_, ?_⟩
  ·rcases List.mem_append.1 hx with hx | hx
   ·exact h.mem m hx
   ·rw [List.mem_singleton] at hx; subst hx
    exact ⟨x, k + 1, rfl, rfl, hm⟩
  ·rcases List.mem_append.1 hx with hx | hx
   ·exact lt2_trans (h.low m hx) (.inr ⟨rfl, by simp only; omega⟩)
   ·rw [List.mem_singleton] at hx; subst hx
    exact .inr ⟨rfl, by simp only [mk2]; omega⟩
  ·rw [List.pairwise_append]
   refine ⟨h.srt, by simp, fun a ha b hb => ?_⟩
   rw [List.mem_singleton] at hb; subst hb
   exact h.low a ha
theorem mlP_lx {x : Nat} {A : List Mm} (h : LX M A ((x : Int), 1)) : ∀ k : Nat, LX M (A ++ mlP M x k) ((x : Int), (k : Int) + 1)
 | 0 => by simpa [mlP] using h
 | k + 1 => by
  rw [mlP, ← List.append_assoc]
  exact ml_step (mlP_lx h k)
theorem mlA_lx : ∀ x : Nat, LX M (mlA M x) ((x : Int), 1)
 | 0 => ⟨fun m h => (by cases h), fun m h => (by cases h), List.Pairwise.nil⟩
 | x + 1 => (mlP_lx (mlA_lx x) 8).up (.inl (.inl (by simp only; omega)))
theorem mlA_parts (h : MOK ns l M) {i : Nat} (hi : i < (mlA M ns.length).length) :
  (0 ≤ ((mlA M ns.length).getD i mm0).node ∧ ((mlA M ns.length).getD i mm0).node < ns.length) ∧ (rpL ns.length l ((mlA M ns.length).getD i mm0).node 8).contains ((mlA M ns.length).getD i mm0).port = true ∧
  (0 ≤ ((mlA M ns.length).getD i mm0).age ∧ ((mlA M ns.length).getD i mm0).age < 3) ∧ (0 ≤ ((mlA M ns.length).getD i mm0).set.st ∧ ((mlA M ns.length).getD i mm0).set.st < 32) ∧
  [((mlA M ns.length).getD i mm0).set.p1, ((mlA M ns.length).getD i mm0).set.cl, ((mlA M ns.length).getD i mm0).set.ac, ((mlA M ns.length).getD i mm0).set.va, ((mlA M ns.length).getD i mm0).set.p2, ((mlA M ns.length).getD i mm0).set.sp, ((mlA M ns.length).getD i mm0).set.rp].all wrd = true ∧
  ((mlA M ns.length).getD i mm0).set.re = (ns.getD ((mlA M ns.length).getD i mm0).node.toNat nd0).id ∧ ((mlA M ns.length).getD i mm0).set.rp = ((mlA M ns.length).getD i mm0).port := by
 have hm : (mlA M ns.length).getD i mm0 ∈ mlA M ns.length := by
  rw [List.getD_eq_getElem?_getD, List.getElem?_eq_getElem hi]; exact List.getElem_mem hi
 obtain ⟨x, p, h1, h2, h3⟩ := (mlA_lx ns.length).mem _ hm
 generalize (mlA M ns.length).getD i mm0 = m at *
 obtain ⟨h4, _⟩ := h.vs x p _ _ h3
 have e : (⟨x, p, m.age, m.set⟩ : Mm) = m := by cases m; simp only at h1 h2; subst h1 h2; rfl
 rw [e] at h4
 obtain ⟨q1, q2, q3, q4, q5, q6⟩ := vlM_parts h4
 obtain ⟨z, hz, p', hp', e'⟩ := (pkA_mem _ _ _ _).1 q1
 simp only [List.cons.injEq, and_true] at e'
 obtain ⟨e1, e2⟩ := e'
 refine ⟨by omega, ?_, q2, q3, q4, q5, q6⟩
 rw [e1, e2]
 exact List.contains_iff_mem.2 hp'
theorem mlA_order {i : Nat} (h0 : 0 < i) (hi : i < (mlA M ns.length).length) : ¬ (((mlA M ns.length).getD (i - 1) mm0).node > ((mlA M ns.length).getD i mm0).node ∨ (((mlA M ns.length).getD (i - 1) mm0).node = ((mlA M ns.length).getD i mm0).node ∧ ((mlA M ns.length).getD (i - 1) mm0).port ≥ ((mlA M ns.length).getD i mm0).port)) := by
 have h := getD_pair (mlA_lx (M := M) ns.length).srt (show i - 1 < i by omega) hi
 unfold lt2 mk2 at h
 simp only at h
 omega
end Go.Vx.L58
set_option maxRecDepth 100000
namespace Go.Vx.L58
open Go Go.Proofs
theorem ds_of {a b : DS} (h : a.p1 = b.p1 ∧ a.cl = b.cl ∧ a.ac = b.ac ∧ a.va = b.va ∧ a.p2 = b.p2 ∧ a.gm = b.gm ∧ a.st = b.st ∧ a.se = b.se ∧ a.sp = b.sp ∧ a.re = b.re ∧ a.rp = b.rp) : a = b := by
 cases a; cases b
 obtain ⟨h1, h2, h3, h4, h5, h6, h7, h8, h9, h10, h11⟩ := h
 simp only at h1 h2 h3 h4 h5 h6 h7 h8 h9 h10 h11
 subst h1 h2 h3 h4 h5 h6 h7 h8 h9 h10 h11
 rfl
theorem rstep_ok (d : DS) (s sp r rp : Int) (h0 : 0 ≤ d.st) (h1 : d.st < 32) : Runs Tryz.prog 162 [aD d, .val (.int .u64 s), .val (.int .i64 sp), .val (.int .u64 r), .val (.int .i64 rp)] [] (Det (.tup [aD { d with st := d.st + 1, se := s, sp := sp, re := r, rp := rp }, .val (.int .i64 0)]) []) := by
 refine Runs.mk tabOK Tryz.call162 Tryz.func162 rfl Tryz.ntmps162 Tryz.results162 rfl ?_
 (repeat' (first
  | (intro Q h; refine h ?_; clear h Q)
  | (refine bcase_mk (fun hb => ?_) (fun hb => ?_) <;> (try simp only [nS, nT, eq_self, reduceCtorEq] at hb) <;> (try (exfalso; omega)))
  | refine seq_go ?_
  | (apply ret_mk []; exact AS; any_goals (apply okIx_mk; rfl))
  ))
 all_goals first | exact cwrap (by omega) (by omega) | fail
set_option maxHeartbeats 8000000 in
theorem rsent_ok {ns : List Nd} {l : List Ed} {M : Mem} (hN : NOK ns l) (hl : l.length ≤ maxLen) (hM : MOK ns l M) (cap cap' capm : Option Nat) (rd : Int) (x p y q : Nat) (hpe : (netP ns l).pe x p = some (y, q)) :
  Runs Tryz.prog 133 [aN ns.length l cap ns cap', aBl rd (mlA M ns.length) capm 2, .val (.int .i64 x), .val (.int .i64 p)] [gB l, ndB ns, meB false (mlA M ns.length)]
   (Det (.tup [aD (sdD (netP ns l) M x p y q), .sb (sdB (netP ns l) M x p)]) [gB l, ndB ns, meB false (mlA M ns.length)]) := by
 obtain ⟨⟨hx, hy⟩, hp, hq, hxy, hpe'⟩ := (netOK hN).pe_ok x p y q hpe
 have hx : x < ns.length := hx
 have hy : y < ns.length := hy
 obtain ⟨hc, hn24, hcl⟩ := hN.parts
 have hml := mlA_len M ns.length
 have hhe := rheard_ok rd (mlA M ns.length) capm (by omega) x
 rw [hdL_hrd M hx] at hhe
 have how := rown_ok ns.length l cap ns cap' x hx
 have hlh : (hrd M x).length = 8 := hrd_len M x
 have hde := rdecide_ok (owD (ns.getD x nd0)) (hrd M x) none (by omega) (hM.wf x) (hcl x hx).2.2
 have hma := rmaster_ok (owD (ns.getD x nd0)) (hrd M x) none (by omega) (hM.wf x) (hcl x hx).2.2
 have hst := hM.st x
 have hco := codP_get (owD (ns.getD x nd0)) (hrd M x) (hrd M x).length (p - 1) (by omega)
 have hclen := codP_len (owD (ns.getD x nd0)) (hrd M x) (hrd M x).length
 have hpr := rpeer_ok ns.length l cap hl x p
 have hpf : peerF ns.length l x p = ((y : Int), (q : Int), true) := by
  obtain ⟨y', q', e, _⟩ := pe_full hc (p := (p : Int)) hx (by
   have h := hpe
   simp only [netP] at h
   by_cases h2 : (peerF ns.length l x p).2.2 = true
   ·exact h2
   ·rw [if_neg h2] at h; cases h)
  have h := hpe
  simp only [netP] at h
  rw [e] at h ⊢
  simp only [if_true, Option.some.injEq, Prod.mk.injEq, Int.toNat_natCast] at h
  obtain ⟨h1, h2⟩ := h
  have hq' : 0 ≤ q' := by
   have := pe_full hc (p := (p : Int)) hx (by rw [e])
   obtain ⟨y2, q2, e2, _, hq2, _⟩ := this
   rw [e] at e2
   simp only [Prod.mk.injEq] at e2
   omega
  rw [h1, show q' = (q : Int) by omega]
 rw [hpf] at hpr
 have hcod : (netP ns l).cod M x (p - 1) = codD (owD (ns.getD x nd0)) (hrd M x) (p - 1) := rfl
 have hfol : (netP ns l).fol M x = folD (owD (ns.getD x nd0)) (hrd M x) := rfl
 have hidx : 0 + (IntKind.i64.wrap ((p : Int) - 1)).toNat = p - 1 := by rw [IntKind.wrap_i64]; omega
 rw [show codP (owD (ns.getD x nd0)) (hrd M x) (hrd M x).length = codL (owD (ns.getD x nd0)) (hrd M x) from rfl] at hco hclen
 have hzx : 0 + Int.toNat (x : Int) = x := by omega
 have hzy : 0 + Int.toNat (y : Int) = y := by omega
 have i1 : (netP ns l).id x = (ns.getD x nd0).id := rfl
 have i2 : (netP ns l).id y = (ns.getD y nd0).id := rfl
 have i3 : (netP ns l).ow x = owD (ns.getD x nd0) := rfl
 unfold sdD sdB
 rw [hfol] at hst
 rw [hcod, hfol, i1, i2, i3]
 rw [hlh] at hde hma hclen
 generalize codL (owD (ns.getD x nd0)) (hrd M x) = C at *
 generalize hcd : codD (owD (ns.getD x nd0)) (hrd M x) (p - 1) = c at *
 have hci : C.getD (0 + (IntKind.i64.wrap ((p : Int) - 1)).toNat) 0 = c := by rw [hidx]; exact hco
 have han := rann_ok c
 have hwn := hN.wf x
 cases hA : ann c
 ·rw [hA] at han
  rw [← hci] at han
  simp only [Bool.false_and]
  rw [if_neg (by simp)]
  generalize folD (owD (ns.getD x nd0)) (hrd M x) = F at *
  generalize hrd M x = H at *
  refine Runs.mk tabOK Tryz.call133 Tryz.func133 rfl Tryz.ntmps133 Tryz.results133 rfl ?_
  (repeat' (first
  | (intro Q h; refine h ?_; clear h Q)
  | (refine bcase_mk (fun hb => ?_) (fun hb => ?_) <;> (try simp only [nS, nT, eq_self, reduceCtorEq] at hb) <;> (try (exfalso; fail; done)))
  | refine seq_go ?_
  | refine And.intro (by first | omega | ((try simp only [wS]); omega) | rfl | decide) ?_
  | ((first | apply call_detx [some 2] (hhe) ); exact AS; any_goals (apply nodup_mk; rfl))
  | ((first | apply call_detx [some 0, some 1] (how) ); exact AS; any_goals (apply nodup_mk; rfl))
  | ((first | apply call_detx [some _] (hde) ); exact AS; any_goals (apply nodup_mk; rfl))
  | ((first | apply call0 (han) ); exact AS)
  | (apply ret_mk [some 0, some 1, some 2]; exact AS; any_goals (apply okIx_mk; rfl))
  ))
 rw [hA] at han
 rw [← hci] at han
 simp only [Bool.true_and, if_true]
 by_cases hF : folD (owD (ns.getD x nd0)) (hrd M x) = owD (ns.getD x nd0)
 ·rw [hF] at hma
  rw [if_pos hF, decide_eq_true hF, Bool.true_or]
  generalize hrd M x = H at *
  refine Runs.mk tabOK Tryz.call133 Tryz.func133 rfl Tryz.ntmps133 Tryz.results133 rfl ?_
  (repeat' (first
  | (intro Q h; refine h ?_; clear h Q)
  | (refine bcase_mk (fun hb => ?_) (fun hb => ?_) <;> (try simp only [nS, nT, eq_self, reduceCtorEq] at hb) <;> (try (exfalso; fail; done)))
  | refine draw_mk (by decide +kernel) ?_
  | refine seq_go ?_
  | refine And.intro (by first | omega | ((try simp only [wS]); omega) | rfl | decide) ?_
  | ((first | apply call_detx [some 2] (hhe) ); exact AS; any_goals (apply nodup_mk; rfl))
  | ((first | apply call_detx [some 0, some 1] (how) | apply calld_detx [some 0, some 1] (how)); exact AS; (any_goals (first | (apply nodup_mk; rfl) | (apply nodup_mk2; rfl) )))
  | ((first | apply call_detx [some _] (hde) ); exact AS; any_goals (apply nodup_mk; rfl))
  | ((first | apply call0 (han) ); exact AS)
  | ((first | apply call_detx [some 0] (hpr) ); exact AS; any_goals (apply nodup_mk; rfl))
  | ((first | apply call_detx [some _] (hma) ); exact AS; any_goals (apply nodup_mk; rfl))
  | (apply ret_mk [some 0, some 1, some 2]; (focus (iterate 2 (all_goals (repeat' (first | exact subL_nil | exact trivial | (intro Q h; refine h ?_; clear h Q) | refine And.intro ?_ ?_ | refine subL_cons ?_ ?_ | refine sub_agg ?_ | refine sub_tup ?_ | exact sub_refl_val _ _ | exact sub_sbl rfl | exact row_same rfl rfl rfl | refine sub_int ?_ ))))); any_goals (apply okIx_mk; rfl))
  ))
  all_goals first | (show (ns.getD (0 + Int.toNat (x : Int)) nd0).id = (ns.getD x nd0).id; rw [hzx]) | (show (ns.getD (0 + Int.toNat (y : Int)) nd0).id = (ns.getD y nd0).id; rw [hzy]) | fail
 ·have hne := hF
  rw [if_neg hF, decide_eq_false hF, Bool.false_or]
  have hsp := rstep_ok (folD (owD (ns.getD x nd0)) (hrd M x)) (ns.getD (0 + Int.toNat (x : Int)) nd0).id p (ns.getD (0 + Int.toNat (y : Int)) nd0).id q hst.1 hst.2
  have e1 : (ns.getD (0 + Int.toNat (x : Int)) nd0).id = (ns.getD x nd0).id := by rw [hzx]
  have e2 : (ns.getD (0 + Int.toNat (y : Int)) nd0).id = (ns.getD y nd0).id := by rw [hzy]
  have hwn := hN.wf x
  clear hco
  generalize hFF : folD (owD (ns.getD x nd0)) (hrd M x) = F at *
  generalize hrd M x = H at *
  refine Runs.mk tabOK Tryz.call133 Tryz.func133 rfl Tryz.ntmps133 Tryz.results133 rfl ?_
  (repeat' (first
  | (intro Q h; refine h ?_; clear h Q)
  | (refine bcase_mk (fun hb => ?_) (fun hb => ?_) <;> (try simp only [nS, nT, eq_self, reduceCtorEq] at hb) <;> (try (exfalso; (first | exact hne (ds_of hb)); done)))
  | refine draw_mk (by decide +kernel) ?_
  | refine seq_go ?_
  | refine And.intro (by first | omega | ((try simp only [wS]); omega) | rfl | decide) ?_
  | ((first | apply call_detx [some 2] (hhe) ); exact AS; any_goals (apply nodup_mk; rfl))
  | ((first | apply call_detx [some 0, some 1] (how) | apply calld_detx [some 0, some 1] (how)); exact AS; (any_goals (first | (apply nodup_mk; rfl) | (apply nodup_mk2; rfl) )))
  | ((first | apply call_detx [some _] (hde) ); exact AS; any_goals (apply nodup_mk; rfl))
  | ((first | apply call0 (han) ); exact AS)
  | ((first | apply call_detx [some 0] (hpr) ); exact AS; any_goals (apply nodup_mk; rfl))
  | ((first | apply call_detx [some _] (hma) ); exact AS; any_goals (apply nodup_mk; rfl))
  | ((first | apply calld0 (hsp)); exact AS)
  | (apply ret_mk [some 0, some 1, some 2]; (focus (iterate 2 (all_goals (repeat' (first | exact subL_nil | exact trivial | (intro Q h; refine h ?_; clear h Q) | refine And.intro ?_ ?_ | refine subL_cons ?_ ?_ | refine sub_agg ?_ | refine sub_tup ?_ | exact sub_refl_val _ _ | exact row_same rfl rfl rfl | ((refine sub_int ?_); first | with_reducible rfl | omega | ((try simp only [wS]); omega) | rfl) | refine sub_sbl ?_ ))))); any_goals (apply okIx_mk; rfl))
  ))
  all_goals first | exact (decide_eq_true hb).symm | exact (decide_eq_false (by omega)).symm | (show (ns.getD (0 + Int.toNat (x : Int)) nd0).id = (ns.getD x nd0).id; rw [hzx]) | (show (ns.getD (0 + Int.toNat (y : Int)) nd0).id = (ns.getD y nd0).id; rw [hzy]) | fail
end Go.Vx.L58
set_option maxRecDepth 100000
namespace Go.Vx.L58
open Go Go.Proofs
set_option maxHeartbeats 8000000 in
theorem rvalid_ok {ns : List Nd} {l : List Ed} {M : Mem} (hN : NOK ns l) (hl : l.length ≤ maxLen) (hM : MOK ns l M) (cap cap' capm : Option Nat) (rd : Int) (hrd : 0 ≤ rd ∧ rd ≤ 1073741824) :
  Runs Tryz.prog 132 [aN ns.length l cap ns cap', aBl rd (mlA M ns.length) capm 2] [gB l, ndB ns, meB false (mlA M ns.length)]
   (Det (.sb true) [gB l, ndB ns, meB false (mlA M ns.length)]) := by
 obtain ⟨hc, hn24, hcl⟩ := hN.parts
 have hml := mlA_len M ns.length
 have hpa := fun i hi => mlA_parts hM (i := i) hi
 have hor := fun i h0 hi => mlA_order (ns := ns) (M := M) (i := i) h0 hi
 have hus := fun a p => rusedn_ok ns.length l cap hl ns cap' a p
 generalize mlA M ns.length = ms at *
 refine Runs.mk tabOK Tryz.call132 Tryz.func132 rfl Tryz.ntmps132 Tryz.results132 rfl ?_
 (repeat' (first
  | (intro Q h; refine h ?_; clear h Q)
  | (refine bcase_mk (fun hb => ?_) (fun hb => ?_) <;> (try simp only [nS, nT, eq_self, reduceCtorEq] at hb) <;> (try (exfalso; omega)))
  | refine seq_go ?_
  ))
 refine loop_inv (σ := Nat) (fun x => x ≤ ms.length) (fun x => ⟨[(2, .ptr 3 3 0 0), (3, .ptr 4 2 0 0), (5, .val (.int .i64 x))], [gB l, ndB ns, meB false ms, .var [.val (.int .i64 ns.length), .sl 0 4 0 l.length cap, .sl 1 6 0 ns.length cap'], .var [.val (.int .i64 rd), .sl 2 14 0 ms.length capm]]⟩) (fun x => ms.length - x) (0) ?_ ?_ ?_
 ·omega
 ·(apply le_mk [some 0, some 1, some 2, some 3, some 4]; exact AS; any_goals (apply okIx_mk; rfl))
 rintro i hi
 by_cases hil : i < ms.length
 rotate_left
 ·(repeat' (first
  | (intro Q h; refine h ?_; clear h Q)
  | (refine bcase_mk (fun hb => ?_) (fun hb => ?_) <;> (try simp only [nS, nT, eq_self, reduceCtorEq] at hb) <;> (try (exfalso; omega)))
  | refine seq_go ?_
  | (apply ret_mk [some 0, some 1, some 2]; exact AS; any_goals (apply okIx_mk; rfl))
  ))
 have hz : 0 + Int.toNat (i : Int) = i := by omega
 obtain ⟨p1, p2, p3, p4, p5, p6, p7⟩ := hpa i hil
 have hus := hus ((ms.getD i mm0).node) ((ms.getD i mm0).port)
 rw [p2] at hus
 rw [show ms.getD i mm0 = ms.getD (0 + Int.toNat (i : Int)) mm0 by rw [hz]] at p1 p2 p3 p4 p5 p6 p7 hus
 have hsm := small_ok [(ms.getD (0 + Int.toNat (i : Int)) mm0).set.p1, (ms.getD (0 + Int.toNat (i : Int)) mm0).set.cl, (ms.getD (0 + Int.toNat (i : Int)) mm0).set.ac, (ms.getD (0 + Int.toNat (i : Int)) mm0).set.va, (ms.getD (0 + Int.toNat (i : Int)) mm0).set.p2, (ms.getD (0 + Int.toNat (i : Int)) mm0).set.sp, (ms.getD (0 + Int.toNat (i : Int)) mm0).set.rp] (some 7) (by simp)
 rw [p5] at hsm
 rw [← Nat.zero_add (ms.getD (0 + Int.toNat (i : Int)) mm0).node.toNat] at p6
 by_cases h0 : 0 < i
 ·have ho := hor i h0 hil
  have hzi : 0 + (IntKind.i64.wrap ((i : Int) - 1)).toNat = i - 1 := by rw [IntKind.wrap_i64]; omega
  rw [show ms.getD i mm0 = ms.getD (0 + Int.toNat (i : Int)) mm0 by rw [hz], ← hzi] at ho
  (repeat' (first
  | (intro Q h; refine h ?_; clear h Q)
  | (with_reducible refine bcase_true ?_)
  | (refine bcase_mk (fun hb => ?_) (fun hb => ?_) <;> (try simp only [nS, nT, eq_self, reduceCtorEq] at hb) <;> (try (exfalso; omega)))
  | refine draw_mk (by decide +kernel) ?_
  | refine seq_go ?_
  | refine And.intro (by first | omega | ((try simp only [wS]); omega) | rfl | decide) ?_
  | ((first | apply call_detx [some 0, some 1] (hus) ); exact AS; any_goals (apply nodup_mk; rfl))
  | ((first | apply calld_detx [some _] (hsm)); (focus ((iterate 2 (all_goals (repeat' (first | exact subL_nil | exact trivial | (intro Q h; refine h ?_; clear h Q) | refine And.intro ?_ ?_ | refine subL_cons ?_ ?_ | exact sub_sl rfl rfl rfl | exact sub_refl_val _ _ | refine cells_succ ?_ ?_ | exact cell0 | (apply row_lit rfl; (focus (refine cells_succ ?_ ?_))) )))); done)); (any_goals (first | (apply nodup_mk2; rfl) )))
  | (apply next_sub (Subtype.mk (i + 1) _); (focus (apply le_mk [some 0, some 1, some 2, some 3, some 4]; (focus (iterate 2 (all_goals (repeat' (first | exact subL_nil | exact trivial | (intro Q h; refine h ?_; clear h Q) | refine And.intro ?_ ?_ | refine subL_cons ?_ ?_ | refine var_mk ?_ | exact sub_ptr rfl rfl | exact sub_sl rfl rfl rfl | exact sub_refl_val _ _ | exact row_same rfl rfl rfl | ((refine sub_int ?_); first | with_reducible rfl | omega | ((try simp only [wS]); omega) | rfl) ))))); any_goals (apply okIx_mk; rfl))); (all_goals (try (first | omega | (simp only; omega)))))
  ))
 ·obtain rfl : i = 0 := by omega
  (repeat' (first
  | (intro Q h; refine h ?_; clear h Q)
  | (with_reducible refine bcase_true ?_)
  | (refine bcase_mk (fun hb => ?_) (fun hb => ?_) <;> (try simp only [nS, nT, eq_self, reduceCtorEq] at hb) <;> (try (exfalso; omega)))
  | refine draw_mk (by decide +kernel) ?_
  | refine seq_go ?_
  | refine And.intro (by first | omega | ((try simp only [wS]); omega) | rfl | decide) ?_
  | ((first | apply call_detx [some 0, some 1] (hus) ); exact AS; any_goals (apply nodup_mk; rfl))
  | ((first | apply calld_detx [some _] (hsm)); (focus ((iterate 2 (all_goals (repeat' (first | exact subL_nil | exact trivial | (intro Q h; refine h ?_; clear h Q) | refine And.intro ?_ ?_ | refine subL_cons ?_ ?_ | exact sub_sl rfl rfl rfl | exact sub_refl_val _ _ | refine cells_succ ?_ ?_ | exact cell0 | (apply row_lit rfl; (focus (refine cells_succ ?_ ?_))) )))); done)); (any_goals (first | (apply nodup_mk2; rfl) )))
  | (apply next_sub (Subtype.mk (0 + 1) _); (focus (apply le_mk [some 0, some 1, some 2, some 3, some 4]; (focus (iterate 2 (all_goals (repeat' (first | exact subL_nil | exact trivial | (intro Q h; refine h ?_; clear h Q) | refine And.intro ?_ ?_ | refine subL_cons ?_ ?_ | refine var_mk ?_ | exact sub_ptr rfl rfl | exact sub_sl rfl rfl rfl | exact sub_refl_val _ _ | exact row_same rfl rfl rfl ))))); any_goals (apply okIx_mk; rfl))); (all_goals (try (first | omega | (simp only; omega)))))
  ))
theorem ready_ok {ns : List Nd} {l : List Ed} {M : Mem} (hN : NOK ns l) (hl : l.length ≤ maxLen) (hn : ns.length ≤ maxLen) (hM : MOK ns l M) (cap cap' capm : Option Nat) (rd : Int) (hrd : 0 ≤ rd ∧ rd ≤ 1073741824) :
  Runs Tryz.prog 97 [aN ns.length l cap ns cap', aBl rd (mlA M ns.length) capm 2] [gB l, ndB ns, meB false (mlA M ns.length)]
   (Det (.val (.int .i64 0)) [gB l, ndB ns, meB false (mlA M ns.length)]) := by
 have hck := r42check_ok ns.length l cap hl ns cap' hn
 rw [hN.ck] at hck
 have hva := rvalid_ok hN hl hM cap cap' capm rd hrd
 refine Runs.mk tabOK Tryz.call97 Tryz.func97 rfl Tryz.ntmps97 Tryz.results97 rfl ?_
 (repeat' (first
  | (intro Q h; refine h ?_; clear h Q)
  | (refine bcase_mk (fun hb => ?_) (fun hb => ?_) <;> (try simp only [nS, nT, eq_self, reduceCtorEq] at hb) <;> (try (exfalso; fail; done)))
  | refine seq_go ?_
  | ((first | apply call_detx [some 0, some 1] (hck) ); exact AS; any_goals (apply nodup_mk; rfl))
  | ((first | apply call_detx [some 0, some 1, some 2] (hva) ); exact AS; any_goals (apply nodup_mk; rfl))
  | (apply ret_mk [some 0, some 1, some 2]; exact AS; any_goals (apply okIx_mk; rfl))
  ))
end Go.Vx.L58
set_option maxRecDepth 100000
namespace Go.Vx.L58
open Go Go.Proofs
theorem pe_peer {ns : List Nd} {l : List Ed} (hN : NOK ns l) {x p y q : Nat} (hpe : (netP ns l).pe x p = some (y, q)) : peerF ns.length l x p = ((y : Int), (q : Int), true) := by
 obtain ⟨⟨hx, _⟩, _⟩ := (netOK hN).pe_ok x p y q hpe
 have hx : x < ns.length := hx
 obtain ⟨hc, _, _⟩ := hN.parts
 obtain ⟨y', q', e, _, hq', _⟩ := pe_full hc (p := (p : Int)) hx (by
  have h := hpe
  simp only [netP] at h
  by_cases h2 : (peerF ns.length l x p).2.2 = true
  ·exact h2
  ·rw [if_neg h2] at h; cases h)
 have h := hpe
 simp only [netP] at h
 rw [e] at h ⊢
 simp only [if_true, Option.some.injEq, Prod.mk.injEq, Int.toNat_natCast] at h
 obtain ⟨h1, h2⟩ := h
 rw [h1, show q' = (q : Int) by omega]
theorem pe_none {ns : List Nd} {l : List Ed} {x p : Nat} (hpe : (netP ns l).pe x p = none) : (peerF ns.length l x p).2.2 = false := by
 simp only [netP] at hpe
 cases h : (peerF ns.length l x p).2.2
 ·rfl
 ·rw [h, if_pos rfl] at hpe; cases hpe
set_option maxHeartbeats 8000000 in
theorem rround_ok {ns : List Nd} {l : List Ed} {M : Mem} (hN : NOK ns l) (hl : l.length ≤ maxLen) (hM : MOK ns l M) (cap cap' capm : Option Nat) (rd : Int) (hrd : 0 ≤ rd ∧ rd ≤ 1000) :
  Runs Tryz.prog 98 [aN ns.length l cap ns cap', aBl rd (mlA M ns.length) capm 2] [gB l, ndB ns, meB false (mlA M ns.length)]
   (Det (.agg [.val (.int .i64 (rd + 1)), .sl 3 14 0 (mlA ((netP ns l).rnd M) ns.length).length none]) [gB l, ndB ns, meB false (mlA M ns.length), meB true (mlA ((netP ns l).rnd M) ns.length)]) := by
 obtain ⟨hc, hn24, hcl⟩ := hN.parts
 have hml := mlA_len M ns.length
 have hll := mlA_len ((netP ns l).rnd M)
 have hpl := mlP_len ((netP ns l).rnd M)
 have hA1 : ∀ x, mlA ((netP ns l).rnd M) (x + 1) = mlA ((netP ns l).rnd M) x ++ mlP ((netP ns l).rnd M) x 8 := fun _ => rfl
 have hA0 : mlA ((netP ns l).rnd M) 0 = [] := rfl
 have hP1 : ∀ x k, mlP ((netP ns l).rnd M) x (k + 1) = mlP ((netP ns l).rnd M) x k ++ mm1 ((netP ns l).rnd M) x (k + 1) := fun _ _ => rfl
 have hP0 : ∀ x, mlP ((netP ns l).rnd M) x 0 = [] := fun _ => rfl
 have hpr := fun x p => rpeer_ok ns.length l cap hl x p
 have hfi := fun a p => find_ok rd (mlA M ns.length) capm (by omega) a p
 have hfe := fun y q => mlA_find M y q ns.length
 have hse := fun y q x p h => rsent_ok hN hl hM cap cap' capm rd y q x p h
 have hpk := fun x p y q h => (netOK hN).pe_ok x p y q h
 have hvs := hM.vs
 refine Runs.mk tabOK Tryz.call98 Tryz.func98 rfl Tryz.ntmps98 Tryz.results98 rfl ?_
 (repeat' (first
  | (intro Q h; refine h ?_; clear h Q)
  | refine seq_go ?_
  ))
 refine loop_inv (σ := Nat) (fun x => x ≤ ns.length) (fun x => ⟨[(2, .ptr 3 3 0 0), (3, .ptr 4 2 0 0), (4, .ptr 5 2 0 0), (5, .ptr 6 2 0 0), (6, .val (.int .i64 x))], [gB l, ndB ns, meB false (mlA M ns.length), .var [.val (.int .i64 ns.length), .sl 0 4 0 l.length cap, .sl 1 6 0 ns.length cap'], .var [.val (.int .i64 rd), .sl 2 14 0 (mlA M ns.length).length capm], .var [.dead, .dead], .var [.val (.int .i64 (rd + 1)), .sl 7 14 0 (mlA ((netP ns l).rnd M) x).length none], meB true (mlA ((netP ns l).rnd M) x)]⟩) (fun x => ns.length - x) (0) ?_ ?_ ?_
 ·omega
 ·rw [hA0]
  (apply le_mk [some 0, some 1, some 2, some 3, some 4, some 5, some 6, none]; exact AS; any_goals (apply okIx_mk; rfl))
  all_goals first | exact cwrap (by omega) (by omega) | fail
 rintro X hx
 by_cases hxl : X < ns.length
 rotate_left
 ·obtain rfl : X = ns.length := by omega
  (repeat' (first
  | (intro Q h; refine h ?_; clear h Q)
  | (refine bcase_mk (fun hb => ?_) (fun hb => ?_) <;> (try simp only [nS, nT, eq_self, reduceCtorEq] at hb) <;> (try (exfalso; omega)))
  | refine seq_go ?_
  | (apply ret_mk [some 0, some 1, some 2, some 7]; exact AS; any_goals (apply okIx_mk; rfl))
  ))
 (repeat' (first
  | (intro Q h; refine h ?_; clear h Q)
  | (refine bcase_mk (fun hb => ?_) (fun hb => ?_) <;> (try simp only [nS, nT, eq_self, reduceCtorEq] at hb) <;> (try (exfalso; omega)))
  | refine seq_go ?_
  ))
 refine loop_inv (σ := Nat) (fun x => x ≤ 8) (fun x => ⟨[(2, .ptr 3 3 0 0), (3, .ptr 4 2 0 0), (4, .ptr 5 2 0 0), (5, .ptr 6 2 0 0), (6, .val (.int .i64 X)), (7, .val (.int .i64 ((x + 1 : Nat) : Int)))], [gB l, ndB ns, meB false (mlA M ns.length), .var [.val (.int .i64 ns.length), .sl 0 4 0 l.length cap, .sl 1 6 0 ns.length cap'], .var [.val (.int .i64 rd), .sl 2 14 0 (mlA M ns.length).length capm], .var [.dead, .dead], .var [.val (.int .i64 (rd + 1)), .sl 7 14 0 (mlA ((netP ns l).rnd M) X ++ mlP ((netP ns l).rnd M) X x).length none], meB true (mlA ((netP ns l).rnd M) X ++ mlP ((netP ns l).rnd M) X x)]⟩) (fun x => 8 - x) (0) ?_ ?_ ?_
 ·omega
 ·rw [hP0, List.append_nil]
  (apply le_mk [some 0, some 1, some 2, some 3, some 4, some 5, some 6, some 7]; exact AS; any_goals (apply okIx_mk; rfl))
 rintro k hk
 by_cases hkl : k < 8
 rotate_left
 ·obtain rfl : k = 8 := by omega
  (repeat' (first
  | (intro Q h; refine h ?_; clear h Q)
  | (refine bcase_mk (fun hb => ?_) (fun hb => ?_) <;> (try simp only [nS, nT, eq_self, reduceCtorEq] at hb) <;> (try (exfalso; omega)))
  | refine seq_go ?_
  | (apply next_sub (Subtype.mk (X + 1) (by first | omega | (simp only; omega))); (focus (rw [hA1]; apply le_mk [some 0, some 1, some 2, some 3, some 4, some 5, some 6, some 7]; exact AS; any_goals (apply okIx_mk; rfl))); (all_goals (try (first | (simp only; omega)))))
  ))
 have hP : mlA ((netP ns l).rnd M) X ++ mlP ((netP ns l).rnd M) X (k + 1) = (mlA ((netP ns l).rnd M) X ++ mlP ((netP ns l).rnd M) X k) ++ mm1 ((netP ns l).rnd M) X (k + 1) := by rw [hP1, List.append_assoc]
 have hl1 := hll X
 have hl2 := hpl X k
 have hpr := hpr X ((k + 1 : Nat) : Int)
 have hcl2 : (mlA ((netP ns l).rnd M) X ++ mlP ((netP ns l).rnd M) X k).length ≤ 300 := by rw [List.length_append]; omega
 generalize mlA ((netP ns l).rnd M) X ++ mlP ((netP ns l).rnd M) X k = C at *
 cases hpe : (netP ns l).pe X (k + 1) with
 | none =>
  have hh := pe_none hpe
  rw [rnd_no hpe, List.append_nil] at hP
  generalize peerF ns.length l X ((k + 1 : Nat) : Int) = pf at *
  obtain ⟨f1, f2, f3⟩ := pf
  simp only at hh
  subst hh
  (repeat' (first
  | (intro Q h; refine h ?_; clear h Q)
  | (refine bcase_mk (fun hb => ?_) (fun hb => ?_) <;> (try simp only [nS, nT, eq_self, reduceCtorEq] at hb) <;> (try (exfalso; omega)))
  | refine seq_go ?_
  | ((first | apply call_detx [some 0] (hpr) ); exact AS; any_goals (apply nodup_mk; rfl))
  | (apply next_sub (Subtype.mk (k + 1) (by first | omega | (simp only; omega))); (focus (rw [hP]; apply le_mk [some 0, some 1, some 2, some 3, some 4, some 5, some 6, some 7]; exact AS; any_goals (apply okIx_mk; rfl))); (all_goals (try (first | (simp only; omega)))))
  ))
 | some v =>
  obtain ⟨y, q⟩ := v
  rw [pe_peer hN hpe] at hpr
  obtain ⟨⟨_, hy⟩, _, hq, _, hpe'⟩ := hpk X (k + 1) y q hpe
  have hy : y < ns.length := hy
  have hse := hse y q X (k + 1) hpe'
  have hfi := hfi X ((k + 1 : Nat) : Int)
  have hfe := hfe X (k + 1)
  rw [if_pos ⟨hxl, by omega, by omega⟩] at hfe
  rw [hfe] at hfi
  cases hb2 : sdB (netP ns l) M y q
  ·rw [hb2] at hse
   cases hmx : M X (k + 1) with
   | none =>
    rw [rnd_none hpe hb2 hmx, List.append_nil] at hP
    rw [hmx] at hfi
    simp only [Option.map_none, Option.isSome_none, Option.getD_none] at hfi
    (repeat' (first
  | (intro Q h; refine h ?_; clear h Q)
  | (with_reducible refine bcase_false ?_)
  | (refine bcase_mk (fun hb => ?_) (fun hb => ?_) <;> (try simp only [nS, nT, eq_self, reduceCtorEq] at hb) <;> (try (exfalso; omega)))
  | refine seq_go ?_
  | ((first | apply call_detx [some 0] (hpr) ); exact AS; any_goals (apply nodup_mk; rfl))
  | ((first | apply call_detx [some 0, some 1, some 2] (hse) ); exact AS; any_goals (apply nodup_mk; rfl))
  | ((first | apply call_detx [some 2] (hfi) ); exact AS; any_goals (apply nodup_mk; rfl))
  | (apply next_sub (Subtype.mk (k + 1) (by first | omega | (simp only; omega))); (focus (rw [hP]; apply le_mk [some 0, some 1, some 2, some 3, some 4, some 5, some 6, some 7]; exact AS; any_goals (apply okIx_mk; rfl))); (all_goals (try (first | (simp only; omega)))))
  ))
   | some v =>
    obtain ⟨a, d⟩ := v
    rw [hmx] at hfi
    simp only [Option.map_some, Option.isSome_some, Option.getD_some] at hfi
    have hag := (vlM_parts (hvs X (k + 1) a d hmx).1).2.1
    have hag : 0 ≤ a ∧ a < 3 := hag
    have wa : IntKind.i64.wrap (a + 1) = a + 1 := by rw [IntKind.wrap_i64]; omega
    by_cases ha : a + 1 < 3
    ·rw [rnd_kept hpe hb2 hmx ha] at hP
     (repeat' (first
  | (intro Q h; refine h ?_; clear h Q)
  | (with_reducible refine bcase_true ?_)
  | (with_reducible refine bcase_false ?_)
  | (refine bcase_mk (fun hb => ?_) (fun hb => ?_) <;> (try simp only [nS, nT, eq_self, reduceCtorEq] at hb) <;> (try (exfalso; omega)))
  | refine seq_go ?_
  | refine And.intro (by first | omega | ((try simp only [wS]); omega) | rfl | decide) ?_
  | ((first | apply call_detx [some 0] (hpr) ); exact AS; any_goals (apply nodup_mk; rfl))
  | ((first | apply call_detx [some 0, some 1, some 2] (hse) ); exact AS; any_goals (apply nodup_mk; rfl))
  | ((first | apply call_detx [some 2] (hfi) ); exact AS; any_goals (apply nodup_mk; rfl))
  | (apply next_sub (Subtype.mk (k + 1) (by first | omega | (simp only; omega))); (focus (rw [hP]; apply le_mk [some 0, some 1, some 2, some 3, some 4, some 5, some 6, some _]; (focus (iterate 2 (all_goals (repeat' (first | apply row_app1 (x := (⟨X, ((k + 1 : Nat) : Int), a + 1, d⟩ : Mm)) | exact sub_dead | exact subL_nil | exact trivial | (intro Q h; refine h ?_; clear h Q) | refine And.intro ?_ ?_ | refine subL_cons ?_ ?_ | refine var_mk ?_ | exact sub_ptr rfl rfl | exact sub_sl rfl rfl rfl | exact sub_refl_val _ _ | exact row_same rfl rfl rfl | ((first | refine sub_int ?_ | refine sub_sl rfl rfl ?_ | show (_ : Nat) = _); first | with_reducible rfl | omega | ((try simp only [wS]); omega) | rfl) | refine cells_succ ?_ ?_ | exact cell0 | with_reducible rfl | refine sub_sl rfl rfl ?_ ))))); any_goals (apply okIx_mk; rfl))); (all_goals (try (first | (simp only; omega)))))
  ))
     all_goals first | exact wa | (rw [List.length_append]; rfl) | fail
    ·rw [rnd_old hpe hb2 hmx ha, List.append_nil] at hP
     (repeat' (first
  | (intro Q h; refine h ?_; clear h Q)
  | (with_reducible refine bcase_true ?_)
  | (with_reducible refine bcase_false ?_)
  | (refine bcase_mk (fun hb => ?_) (fun hb => ?_) <;> (try simp only [nS, nT, eq_self, reduceCtorEq] at hb) <;> (try (exfalso; omega)))
  | refine seq_go ?_
  | ((first | apply call_detx [some 0] (hpr) ); exact AS; any_goals (apply nodup_mk; rfl))
  | ((first | apply call_detx [some 0, some 1, some 2] (hse) ); exact AS; any_goals (apply nodup_mk; rfl))
  | ((first | apply call_detx [some 2] (hfi) ); exact AS; any_goals (apply nodup_mk; rfl))
  | (apply next_sub (Subtype.mk (k + 1) (by first | omega | (simp only; omega))); (focus (rw [hP]; apply le_mk [some 0, some 1, some 2, some 3, some 4, some 5, some 6, some 7]; exact AS; any_goals (apply okIx_mk; rfl))); (all_goals (try (first | (simp only; omega)))))
  ))
  ·rw [hb2] at hse
   rw [rnd_came hpe hb2] at hP
   generalize sdD (netP ns l) M y q X (k + 1) = D at *
   (repeat' (first
  | (intro Q h; refine h ?_; clear h Q)
  | (with_reducible refine bcase_true ?_)
  | (refine bcase_mk (fun hb => ?_) (fun hb => ?_) <;> (try simp only [nS, nT, eq_self, reduceCtorEq] at hb) <;> (try (exfalso; omega)))
  | refine seq_go ?_
  | refine And.intro (by first | omega | ((try simp only [wS]); omega) | rfl | decide) ?_
  | ((first | apply call_detx [some 0] (hpr) ); exact AS; any_goals (apply nodup_mk; rfl))
  | ((first | apply call_detx [some 0, some 1, some 2] (hse) ); exact AS; any_goals (apply nodup_mk; rfl))
  | (apply next_sub (Subtype.mk (k + 1) (by first | omega | (simp only; omega))); (focus (rw [hP]; apply le_mk [some 0, some 1, some 2, some 3, some 4, some 5, some 6, some _]; (focus (iterate 2 (all_goals (repeat' (first | exact sub_dead | exact subL_nil | exact trivial | (intro Q h; refine h ?_; clear h Q) | refine And.intro ?_ ?_ | refine subL_cons ?_ ?_ | refine var_mk ?_ | exact sub_ptr rfl rfl | exact sub_sl rfl rfl rfl | exact sub_refl_val _ _ | exact row_same rfl rfl rfl | ((first | refine sub_int ?_ | refine sub_sl rfl rfl ?_ | show (_ : Nat) = _); first | with_reducible rfl | omega | ((try simp only [wS]); omega) | rfl) | apply row_app1 | refine cells_succ ?_ ?_ | exact cell0 | with_reducible rfl | refine sub_int ?_ | refine sub_sl rfl rfl ?_ ))))); any_goals (apply okIx_mk; rfl))); (all_goals (try (first | (simp only; omega)))))
  ))
   all_goals first | (rw [List.length_append]; rfl) | fail
set_option maxHeartbeats 8000000 in
theorem r42run_ok {ns : List Nd} {l : List Ed} (hN : NOK ns l) (hl : l.length ≤ maxLen) (hn : ns.length ≤ maxLen) (cap cap' : Option Nat) :
  Runs Tryz.prog 52 [aN ns.length l cap ns cap', .agg [.val (.int .i64 0), .val (.slice none 0 0)], .val (.int .i64 ns.length)] [gB l, ndB ns]
   (Det (.tup [.agg [.val (.int .i64 ns.length), .sl 2 14 0 (mlA ((netP ns l).run M0 ns.length) ns.length).length none], .val (.int .i64 0)]) [gB l, ndB ns, meB true (mlA ((netP ns l).run M0 ns.length) ns.length)]) := by
 obtain ⟨hc, hn24, hcl⟩ := hN.parts
 have hr0 := ready_ok hN hl hn MOK.zero cap cap' none 0 (by omega)
 have hrn := fun (k : Nat) (hk : k ≤ 24) => rround_ok hN hl (MOK.run hN k) cap cap' none k (by omega)
 have hm0 : mlA M0 ns.length = [] := by rw [show M0 = fun _ _ => none from funext fun _ => funext fun _ => rfl]; exact mlA_none ns.length
 have hs : ∀ k, (netP ns l).rnd ((netP ns l).run M0 k) = (netP ns l).run M0 (k + 1) := fun _ => rfl
 have hr00 : (netP ns l).run M0 0 = M0 := rfl
 simp only [hs] at hrn
 rw [hm0] at hr0
 rw [← hr00] at hm0
 generalize hL : (fun k => mlA ((netP ns l).run M0 k) ns.length) = L at *
 have hLk : ∀ k, mlA ((netP ns l).run M0 k) ns.length = L k := fun k => by rw [← hL]
 simp only [hLk] at hrn hm0 ⊢
 have w0 : IntKind.i64.wrap ((0 : Int) + ns.length) = ns.length := by rw [IntKind.wrap_i64]; omega
 refine Runs.mk tabOK Tryz.call52 Tryz.func52 rfl Tryz.ntmps52 Tryz.results52 rfl ?_
 (repeat' (first
  | (intro Q h; refine h ?_; clear h Q)
  | (refine bcase_mk (fun hb => ?_) (fun hb => ?_) <;> (try simp only [nS, nT, eq_self, reduceCtorEq] at hb) <;> (try (exfalso; omega)))
  | refine seq_go ?_
  | ((first | apply call_detx [some 0, some 1, none] (hr0) ); exact AS; any_goals (apply nodup_mk; rfl))
  ))
 refine loop_inv (σ := Nat) (fun x => x ≤ ns.length) (fun x => ⟨[(2, .val (.int .i64 ns.length)), (3, .ptr 2 3 0 0), (4, .ptr 3 2 0 0), (6, .ptr 4 2 0 0), (9, .val (.int .i64 x))], [gB l, ndB ns, .var [.val (.int .i64 ns.length), .sl 0 4 0 l.length cap, .sl 1 6 0 ns.length cap'], .var [.val (.int .i64 x), .sl 5 14 0 (L x).length none], .var [.dead, .dead], meB true (L x)]⟩) (fun x => ns.length - x) (0) ?_ ?_ ?_
 ·omega
 ·rw [hm0]
  (apply le_mk [some 0, some 1, some 2, some 3, some 4, none]; exact AS; any_goals (apply okIx_mk; rfl))
 rintro x hx
 by_cases hxl : x < ns.length
 rotate_left
 ·obtain rfl : x = ns.length := by omega
  (repeat' (first
  | (intro Q h; refine h ?_; clear h Q)
  | (refine bcase_mk (fun hb => ?_) (fun hb => ?_) <;> (try simp only [nS, nT, eq_self, reduceCtorEq] at hb) <;> (try (exfalso; omega)))
  | refine seq_go ?_
  | (apply ret_mk [some 0, some 1, some 5]; exact AS; any_goals (apply okIx_mk; rfl))
  ))
 have hrn := hrn x (by omega)
 (repeat' (first
  | (intro Q h; refine h ?_; clear h Q)
  | (refine bcase_mk (fun hb => ?_) (fun hb => ?_) <;> (try simp only [nS, nT, eq_self, reduceCtorEq] at hb) <;> (try (exfalso; omega)))
  | refine seq_go ?_
  | ((first | apply call_detx [some 0, some 1, some 5] (hrn) ); exact AS; any_goals (apply nodup_mk; rfl))
  | (apply next_sub (Subtype.mk (x + 1) _); (focus (apply le_mk [some 0, some 1, some 2, some 3, some 4, some _]; (focus (iterate 2 (all_goals (repeat' (first | exact sub_dead | exact subL_nil | exact trivial | (intro Q h; refine h ?_; clear h Q) | refine And.intro ?_ ?_ | refine subL_cons ?_ ?_ | refine var_mk ?_ | exact sub_ptr rfl rfl | exact sub_sl rfl rfl rfl | exact sub_refl_val _ _ | exact row_same rfl rfl rfl | exact row_ren rfl rfl rfl | ((refine sub_int ?_); first | with_reducible rfl | omega | ((try simp only [wS]); omega) | rfl) ))))); any_goals (apply okIx_mk; rfl))); (all_goals (try (first | omega | (simp only; omega)))))
  ))
end Go.Vx.L58
set_option maxRecDepth 100000
namespace Go.Vx.L58
open Go Go.Proofs
def ptK (C : List Int) : Nat → Int
 | 0 => 0
 | k + 1 => if C.getD k 0 = 6 then (k : Int) + 1 else ptK C k
def ptM (s : Scn) (i : Nat) : Int := ptK (codL (owD (s.ns.getD i nd0)) (hrd ((netP s.ns s.l).run M0 s.ns.length) i)) 8
def ptP (s : Scn) : Nat → List Int
 | 0 => []
 | x + 1 => ptP s x ++ [ptM s x]
abbrev ptS (s : Scn) : List Int := ptP s s.ns.length
theorem ptP_len (s : Scn) : ∀ x, (ptP s x).length = x
 | 0 => rfl
 | x + 1 => by rw [ptP, List.length_append, ptP_len s x]; rfl
theorem ptP_get (s : Scn) : ∀ x y, y < x → (ptP s x).getD y 0 = ptM s y
 | 0, y, h => by omega
 | x + 1, y, h => by
  have hl := ptP_len s x
  rw [ptP, List.getD_eq_getElem?_getD]
  by_cases hy : y < x
  ·rw [List.getElem?_append_left (by omega), ← List.getD_eq_getElem?_getD, ptP_get s x y hy]
  ·obtain rfl : y = x := by omega
   rw [List.getElem?_append_right (by omega), hl, Nat.sub_self]; rfl
theorem ptK_bd (C : List Int) : ∀ k : Nat, 0 ≤ ptK C k ∧ ptK C k ≤ k
 | 0 => by simp [ptK]
 | k + 1 => by
  have := ptK_bd C k
  rw [ptK]; split <;> omega
theorem ptK_congr {C C' : List Int} : ∀ k, (∀ i, i < k → C.getD i 0 = C'.getD i 0) → ptK C k = ptK C' k
 | 0, _ => rfl
 | k + 1, h => by rw [ptK, ptK, h k (by omega), ptK_congr k fun i hi => h i (by omega)]
theorem ptK_six {C : List Int} : ∀ k, ptK C k ≠ 0 → ∃ b, b < k ∧ ptK C k = (b : Int) + 1 ∧ C.getD b 0 = 6
 | 0, h => absurd rfl h
 | k + 1, h => by
  rw [ptK] at h ⊢
  by_cases h6 : C.getD k 0 = 6
  ·rw [if_pos h6]; exact ⟨k, by omega, rfl, h6⟩
  ·rw [if_neg h6] at h ⊢
   obtain ⟨b, h1, h2, h3⟩ := ptK_six k h
   exact ⟨b, by omega, h2, h3⟩
theorem brK_pt (s : Scn) (C : List Int) (x : Nat) : ∀ k, brK s C x k = if ptK C k = 0 then bm else upF s x (ptK C k)
 | 0 => rfl
 | k + 1 => by
  rw [brK, ptK]
  by_cases h6 : C.getD k 0 = 6
  ·rw [if_pos h6, if_pos h6, if_neg (by omega)]
  ·rw [if_neg h6, if_neg h6]; exact brK_pt s C x k
section
variable {s : Scn}
theorem M0_eq : M0 = fun _ _ => none := funext fun _ => funext fun _ => rfl
theorem ptM_cod (ok : SOk s) (hc : ckS s = 0) (x : Nat) : ptM s x = ptK (cdS s x) 8 := by
 refine ptK_congr 8 fun i hi => ?_
 rw [cdS_cod ok hc x i hi, M0_eq]
 show (codP _ (hrd _ x) (hrd _ x).length).getD i 0 = _
 rw [hrd_len, codP_get _ _ _ _ hi]
 rfl
theorem pt_par (ok : SOk s) (hc : ckS s = 0) {x : Nat} (hx : x < s.ns.length) :
  (ptM s x = 0 ∧ (trS s).getD x br0 = bm) ∨ ((1 ≤ ptM s x ∧ ptM s x ≤ 8) ∧ (trS s).getD x br0 = upF s x (ptM s x) ∧ ∃ y q : Nat, y < s.ns.length ∧ ((trS s).getD x br0).p = y ∧ peerF s.ns.length s.l x (ptM s x) = ((y : Int), (q : Int), true)) := by
 obtain ⟨hN, hn, _, _⟩ := sc_parts ok hc
 have hG := netOK hN
 rw [trS_get s hx, brK_pt, ← ptM_cod ok hc x]
 by_cases h0 : ptM s x = 0
 ·rw [if_pos h0]; exact .inl ⟨h0, rfl⟩
 rw [if_neg h0]
 right
 have hb8 := ptK_bd (cdS s x) 8
 rw [← ptM_cod ok hc x] at hb8
 refine ⟨by omega, rfl, ?_⟩
 obtain ⟨b, hb, e1, e2⟩ := ptK_six 8 (by rw [← ptM_cod ok hc x]; exact h0)
 rw [← ptM_cod ok hc x] at e1
 rw [cdS_cod ok hc x b hb] at e2
 have hmm : ∃ a d, mS s x (b + 1) = some (a, d) := by
  rcases bstL_spec (mS s) x with ⟨h1, _⟩ | ⟨b', h1, h2, ⟨a, h3⟩, _⟩
  ·exfalso
   have hs : selfD ((gS s).ow x) (hrd (mS s) x) = true := by unfold selfD; rw [h1]; rfl
   exact cod_self hs b e2
  ·cases hs : selfD ((gS s).ow x) (hrd (mS s) x) with
   | true => exact absurd e2 (cod_self hs b)
   | false =>
    have := (cod_other hs h1 b).1 e2
    subst this
    exact ⟨a, _, h3⟩
 obtain ⟨a, d, hmm⟩ := hmm
 have hVM := run_VM hG (M := fun _ _ => none) (fun x p a d h => by cases h) s.ns.length
 obtain ⟨⟨y, q, hpe⟩, _⟩ := hVM x (b + 1) a d hmm
 obtain ⟨⟨_, hy⟩, _⟩ := hG.pe_ok _ _ _ _ hpe
 have hy : y < s.ns.length := hy
 have hpF := pe_peer hN hpe
 have e1' : ptM s x = ((b + 1 : Nat) : Int) := by omega
 refine ⟨y, q, hy, ?_, by rw [e1']; exact hpF⟩
 have hck := hN.parts.1
 have hpL : peerL s.l x ((b + 1 : Nat) : Int) = ((y : Int), (q : Int), true) := by rw [← peerF_of hck (a := (x : Int)) (by omega) (by omega) _]; exact hpF
 rw [e1']
 have hu := upW_peer s x ((b + 1 : Nat) : Int) s.l.length 0 (by omega) (by rw [List.drop_zero, hpL])
 rw [List.drop_zero, hpL] at hu
 exact hu
theorem clF_step (t : List Br) : ∀ k x j, j + 1 < (clF t k x).length → 0 ≤ (t.getD ((clF t k x).getD j 0).toNat br0).p ∧ (t.getD ((clF t k x).getD j 0).toNat br0).p = (clF t k x).getD (j + 1) 0
 | 0, x, j, h => by simp [clF] at h
 | k + 1, x, j, h => by
  rw [clF] at h ⊢
  by_cases hp : 0 ≤ (t.getD x br0).p
  ·rw [if_pos hp] at h ⊢
   cases j with
   | zero =>
    rw [List.getD_cons_zero, List.getD_cons_succ, clF_hd, Int.toNat_natCast]
    exact ⟨hp, by omega⟩
   | succ j =>
    rw [List.getD_cons_succ, List.getD_cons_succ]
    exact clF_step t k _ j (by simpa using h)
  ·rw [if_neg hp] at h
   simp at h
theorem clF_end (ok : SOk s) (hc : ckS s = 0) {m : Nat} (hm : (gS s).Best (dsN s.ns s.l) m) : ∀ (k f x : Nat), k ≤ f → x < s.ns.length → dsN s.ns s.l m x = k → ((trS s).getD ((clF (trS s) f x).getD k 0).toNat br0).p = -1
 | 0, f, x, _, hx, hd => by
  have hp := (par_step ok hc hm hx hd).1 rfl
  rw [clF_hd, Int.toNat_natCast]; exact hp
 | k + 1, 0, x, h, _, _ => by omega
 | k + 1, f + 1, x, h, hx, hd => by
  obtain ⟨y, hy, hp, hdy⟩ := (par_step ok hc hm hx hd).2 (by omega)
  have ih := clF_end ok hc hm k f y (by omega) hy (by omega)
  rw [clF, if_pos (by rw [hp]; omega), hp, Int.toNat_natCast, List.getD_cons_succ]
  exact ih
theorem upL_end (ok : SOk s) (hc : ckS s = 0) {v : Nat} (hv : v < s.ns.length) : ((trS s).getD ((upL s v).getD ((upL s v).length - 1) 0).toNat br0).p = -1 := by
 obtain ⟨hN, hn, _, _⟩ := sc_parts ok hc
 have hG := netOK hN
 have hD := dst_ok hN
 obtain ⟨h1, h2, h3⟩ := best_of_exp hG hD (dst_symm hN) (x := v) hv
 have h4 := dst_lt_n hG hD h1.1 (y := v) hv
 have hnn : (gS s).n = s.ns.length := rfl
 have hnn2 : (netP s.ns s.l).n = s.ns.length := rfl
 generalize expX (gS s).ow (dsN s.ns s.l v) v (gS s).n = c at *
 obtain ⟨k, hk⟩ := Int.eq_ofNat_of_zero_le h3
 have hw := clF_way ok hc h1 k (s.ns.length - 1) v (by rw [hk] at h4; omega) hv hk
 have he := clF_end ok hc h1 k (s.ns.length - 1) v (by rw [hk] at h4; omega) hv hk
 unfold upL
 rw [hw.1, Nat.add_sub_cancel]; exact he
theorem upL_step {v j : Nat} (h : j + 1 < (upL s v).length) : 0 ≤ ((trS s).getD ((upL s v).getD j 0).toNat br0).p ∧ ((trS s).getD ((upL s v).getD j 0).toNat br0).p = (upL s v).getD (j + 1) 0 := clF_step _ _ _ _ h
end
end Go.Vx.L58

/- Lemmas of a small executor for the model, and contracts of functions, used for the law that this claim proves. No condition. -/
import Derived.Test.YtodbfpjjahpahaaGreatDoorEW3
import Derived.Test.YtodbfpjjahpahaaGreatDoorERTB
import Derived.Test.YtodbfpjjahpahaaGreatDoorERB1
import Derived.Test.YtodbfpjjahpahaaGreatDoorEPTB
set_option linter.unusedSimpArgs false
set_option linter.unusedVariables false
set_option maxRecDepth 100000
namespace Go.Vx.L58
open Go Go.Proofs
theorem c23 {ns : List Nd} {l : List Ed} {M : Mem} (hN : NOK ns l) (hl : l.length <= maxLen) (hn : ns.length <= maxLen) (hM : MOK ns l M) (cap cap' capm : Option Nat) (rd : Int) (hrr : 0 <= rd /\ rd <= 1000) (x : Nat) (hx : x < ns.length) :
  Runs Tryz.prog 54 [aN ns.length l cap ns cap', aBl rd (mlA M ns.length) capm 2, .val (.int .i64 x)] [gB l, ndB ns, meB false (mlA M ns.length)]
   (Det (.tup [.sl 3 1 0 8 none, .val (.int .i64 0)]) [gB l, ndB ns, meB false (mlA M ns.length), .arr true 3 1 8 (a2v (a7s (owD (ns.getD x nd0)) (hrd M x)))]) := by
 obtain ⟨hc, hn24, hcl⟩ := hN.parts
 have hml := a73 M ns.length
 have hhe := b5f rd (mlA M ns.length) capm (by omega) x
 rw [c00 M hx] at hhe
 have how := c4x ns.length l cap ns cap' x hx
 have hlh : (hrd M x).length = 8 := a52 M x
 have hde := a7w (owD (ns.getD x nd0)) (hrd M x) none (by omega) (hM.wf x) (hcl x hx).2.2
 have hclen := a2p (owD (ns.getD x nd0)) (hrd M x) (hrd M x).length
 rw [show b1h (owD (ns.getD x nd0)) (hrd M x) (hrd M x).length = a7s (owD (ns.getD x nd0)) (hrd M x) from rfl] at hclen
 have hre := b85 hN hl hn hM cap cap' capm rd (by omega)
 rw [hlh] at hde hclen
 generalize a7s (owD (ns.getD x nd0)) (hrd M x) = C at *
 generalize mlA M ns.length = ms at *
 refine Runs.mk a0k Tryz.call54 Tryz.func54 rfl Tryz.ntmps54 Tryz.results54 rfl ?_
 (repeat' (first
  | refine SP ?_
  | (apply a0a <;> intro hb <;> (try simp only [nS, nT, eq_self, reduceCtorEq] at hb) <;> (try (exfalso; omega)))
  | refine a0q (by decide +kernel) ?_
  | refine a0c ?_
  | refine CT [some 0, some 1, some 2] hre ?_
  | ((first | apply a0m [some 2] (hhe)); exact AS; (any_goals (first | (apply a0s; rfl) )))
  | ((first | apply a0m [some 0, some 1] (how)); exact AS; (any_goals (first | (apply a0s; rfl) )))
  | ((first | apply a0m [some _] (hde)); exact AS; (any_goals (first | (apply a0s; rfl) )))
  | (apply a0v [some 0, some 1, some 2, some _]; exact AS; any_goals (apply a0e; rfl))
  ))
set_option maxHeartbeats 8000000 in
theorem c0g (s : Scn) (ok : SOk s) (hc : ckS s = 0) : Runs Tryz.prog 23 [scA s] (scB s) (Det (.sl 8 1 0 s.ns.length none) [gB s.l, ndB s.ns, osB s.os s.hd, osR s.os s.hd, iB false s.dn, iB false s.up, blB s.tr, iB false s.st, .arr true 3 1 s.ns.length (a2v (ptS s))]) := by
 have hmx : maxLen = 9223372036854775807 := by decide
 obtain ⟨hck, _, _, _⟩ := a2l hc
 obtain ⟨hc1, hc2, _⟩ := a5h hck
 have hN : NOK s.ns s.l := ⟨by rw [hc2]; exact hck, ok.hw⟩
 obtain ⟨_, hn24, _⟩ := hN.parts
 have hst := c1y s.ns.length s.l s.c0 s.ns s.c1
 have hru := c4f hN ok.hl ok.hn s.c0 s.c1
 have hco := fun x hx => c23 hN ok.hl ok.hn (MOK.run hN s.ns.length) s.c0 s.c1 none s.ns.length (by omega) x hx
 have hpl := b1c s
 have hp1 : ∀ x, ptP s (x + 1) = ptP s x ++ [ptM s x] := fun _ => rfl
 have hp0 : ptP s 0 = [] := rfl
 have hpm : ∀ x, ptM s x = ptK (a7s (owD (s.ns.getD x nd0)) (hrd ((a1v s.ns s.l).run M0 s.ns.length) x)) 8 := fun _ => rfl
 have hcl := fun x => a2p (owD (s.ns.getD x nd0)) (hrd ((a1v s.ns s.l).run M0 s.ns.length) x) (hrd ((a1v s.ns s.l).run M0 s.ns.length) x).length
 generalize mlA ((a1v s.ns s.l).run M0 s.ns.length) s.ns.length = ms at *
 rw [hc2] at hst hru hco
 have hnn : s.n = s.ns.length := hc2.symm
 refine Runs.mk a0k Tryz.call23 Tryz.func23 rfl Tryz.ntmps23 Tryz.results23 rfl ?_
 (repeat' (first
  | refine SP ?_
  | refine a0q (by decide +kernel) ?_
  | refine a0c ?_
  | ((first | apply a0m [some 0, some 1] (hst)); exact AS; (any_goals (first | (apply a0s; rfl) )))
  | ((first | apply a0m [some 0, some 1] (hru)); exact AS; (any_goals (first | (apply a0s; rfl) )))
  ))
 refine a0p (σ := Nat) (fun x => x <= s.ns.length) (fun x => ⟨[(1, .ptr 8 8 0 0), (3, .ptr 9 2 0 0), (5, .sl 11 1 0 x none), (6, .val (.int .i64 x))], [gB s.l, ndB s.ns, osB s.os s.hd, osR s.os s.hd, iB false s.dn, iB false s.up, blB s.tr, iB false s.st, .var (scV s), .var [.val (.int .i64 s.ns.length), .sl 10 14 0 ms.length none], meB true ms, .arr true 3 1 x (a2v (ptP s x))]⟩) (fun x => s.ns.length - x) (0) ?_ ?_ ?_
 ·omega
 ·rw [hp0]
  (apply a04 [some 0, some 1, some 2, some 3, some 4, some 5, some 6, some 7, some 8, some _, some _, none]; exact AS; any_goals (apply a0e; rfl))
 rintro X hx
 by_cases hxl : X < s.ns.length
 rotate_left
 ·obtain rfl : X = s.ns.length := by omega
  (repeat' (first
  | refine SP ?_
  | (apply a0a <;> intro hb <;> (try simp only [nS, nT, eq_self, reduceCtorEq] at hb) <;> (try (exfalso; omega)))
  | refine a0c ?_
  | exact RT [some 0, some 1, some 2, some 3, some 4, some 5, some 6, some 7, some 11]
  ))
 have hco := hco X hxl
 have hpm := hpm X
 have hp1 := hp1 X
 have hcl := hcl X
 rw [a52] at hcl
 have hplx := hpl X
 have hcg : a7s (owD (s.ns.getD X nd0)) (hrd ((a1v s.ns s.l).run M0 s.ns.length) X) = b1h (owD (s.ns.getD X nd0)) (hrd ((a1v s.ns s.l).run M0 s.ns.length) X) 8 := by
  show b1h _ _ (hrd _ X).length = _; rw [a52]
 rw [hcg] at hco hpm
 generalize b1h (owD (s.ns.getD X nd0)) (hrd ((a1v s.ns s.l).run M0 s.ns.length) X) 8 = C at *
 rw [hpm] at hp1
 have hks : ∀ k, ptK C (k + 1) = if C.getD k 0 = 6 then (k : Int) + 1 else ptK C k := fun _ => rfl
 have hk0 : ptK C 0 = 0 := rfl
 have hkb := c4w C
 generalize ptK C = K at *
 generalize ptP s X = P at *
 (repeat' (first
  | refine SP ?_
  | (apply a0a <;> intro hb <;> (try simp only [nS, nT, eq_self, reduceCtorEq] at hb) <;> (try (exfalso; omega)))
  | refine a0c ?_
  | refine CT [some 0, some 1, some 10] hco ?_
  ))
 refine a0p (σ := Nat) (fun x => x <= 8) (fun x => ⟨[(1, .ptr 8 8 0 0), (3, .ptr 9 2 0 0), (5, .sl 11 1 0 X none), (6, .val (.int .i64 X)), (7, .sl 12 1 0 8 none), (9, .val (.int .i64 (K x))), (10, .val (.int .i64 x))], [gB s.l, ndB s.ns, osB s.os s.hd, osR s.os s.hd, iB false s.dn, iB false s.up, blB s.tr, iB false s.st, .var (scV s), .var [.val (.int .i64 s.ns.length), .sl 10 14 0 ms.length none], meB true ms, .arr true 3 1 X (a2v P), .arr true 3 1 8 (a2v C)]⟩) (fun x => 8 - x) (0) ?_ ?_ ?_
 ·omega
 ·rw [hk0]
  (apply a04 [some 0, some 1, some 2, some 3, some 4, some 5, some 6, some 7, some 8, some 9, some 10, some 11, some _]; exact AS; any_goals (apply a0e; rfl))
 rintro k hk
 by_cases hkl : k < 8
 ·have hz : 0 + Int.toNat (k : Int) = k := by omega
  have hks := hks k
  by_cases h6 : C.getD k 0 = 6
  ·rw [if_pos h6] at hks
   rw [<- hz] at h6
   (repeat' (first
  | refine SP ?_
  | (apply a0a <;> intro hb <;> (try simp only [nS, nT, eq_self, reduceCtorEq] at hb) <;> (try (exfalso; omega)))
  | refine a0c ?_
  | refine OB ?_
  | (apply a0i (Subtype.mk (k + 1) (by first | omega | (simp only; omega))); (focus (rw [hks]; exact LT [some 0, some 1, some 2, some 3, some 4, some 5, some 6, some 7, some 8, some 9, some 10, some 11, some 12])); (all_goals (try (first | (simp only; omega)))))
  ))
  ·rw [if_neg h6] at hks
   rw [<- hz] at h6
   (repeat' (first
  | refine SP ?_
  | (apply a0a <;> intro hb <;> (try simp only [nS, nT, eq_self, reduceCtorEq] at hb) <;> (try (exfalso; omega)))
  | refine a0c ?_
  | refine OB ?_
  | (apply a0i (Subtype.mk (k + 1) (by first | omega | (simp only; omega))); (focus (rw [hks]; exact LT [some 0, some 1, some 2, some 3, some 4, some 5, some 6, some 7, some 8, some 9, some 10, some 11, some 12])); (all_goals (try (first | (simp only; omega)))))
  ))
 ·obtain rfl : k = 8 := by omega
  (repeat' (first
  | refine SP ?_
  | (apply a0a <;> intro hb <;> (try simp only [nS, nT, eq_self, reduceCtorEq] at hb) <;> (try (exfalso; omega)))
  | refine a0c ?_
  | refine OB ?_
  | (apply a0i (Subtype.mk (X + 1) (by first | omega | (simp only; omega))); (focus (rw [hp1]; apply a04 [some 0, some 1, some 2, some 3, some 4, some 5, some 6, some 7, some 8, some 9, some 10, some _]; exact AS; any_goals (apply a0e; rfl))); (all_goals (try (first | (simp only; omega)))))
  ))
  all_goals first | (rw [List.length_append]; rfl) | fail
end Go.Vx.L58
set_option maxRecDepth 100000
namespace Go.Vx.L58
open Go Go.Proofs
def rvU (U : List Int) (x : Nat) : List Int := (U.take (x + 1)).reverse
theorem d00 {U : List Int} {x : Nat} (h : x < U.length) : (rvU U x).length = x + 1 := by
 unfold rvU; rw [List.length_reverse, List.length_take]; omega
theorem c2b {U : List Int} {x : Nat} (h : x < U.length) : U.take (x + 1) = U.take x ++ [U.getD x 0] := by
 rw [List.getD_eq_getElem?_getD, List.getElem?_eq_getElem h, Option.getD_some]; exact (List.take_append_getElem h).symm
theorem c11 {U : List Int} {x : Nat} (h : x < U.length) : rvU U x = U.getD x 0 :: (U.take x).reverse := by
 unfold rvU; rw [c2b h, List.reverse_append]; rfl
theorem c52 {U : List Int} {x : Nat} (h : x + 1 < U.length) : rvU U (x + 1) = U.getD (x + 1) 0 :: rvU U x := c11 h
theorem d4a {U : List Int} {x : Nat} (h : x < U.length) : (rvU U x).getD 0 0 = U.getD x 0 := by rw [c11 h]; rfl
theorem c5s {U : List Int} (h : 0 < U.length) : rvU U (U.length - 1) = U.reverse := by
 unfold rvU; rw [show U.length - 1 + 1 = U.length by omega, List.take_length]
theorem c6p {ρ : Nat -> Option Nat} {t n m : Nat} {p : Int} {C : List Int} {c0 : Nat -> Nat -> AV} (hn : m = n) (h0 : c0 0 0 = .val (.int .i64 p)) :
  a3v ρ (.arr true t 1 n (a2v (p :: C))) (.arr true t 1 m (b3i 1 c0 fun i j => a2v C (0 + i) j)) := by
 refine a2o (fun _ => rfl) hn fun i hi j hj => ?_
 obtain rfl : j = 0 := by omega
 cases i with
 | zero =>
  rw [b2e (by omega), h0]
  exact a0b _ _
 | succ i =>
  rw [a8m (by omega), Nat.add_sub_cancel, Nat.zero_add]
  show sub ρ (.val (.int .i64 ((p :: C).getD (i + 1) 0))) (.val (.int .i64 (C.getD i 0)))
  rw [List.getD_cons_succ]
  exact a0b _ _
set_option maxHeartbeats 8000000 in
theorem b48 (s : Scn) (ok : SOk s) (hc : ckS s = 0) (v : Nat) (hv : v < s.ns.length) :
  Runs Tryz.prog 32 [scA s, .sl 8 1 0 s.ns.length none, .val (.int .i64 v)] [gB s.l, ndB s.ns, osB s.os s.hd, osR s.os s.hd, iB false s.dn, iB false s.up, blB s.tr, iB false s.st, .arr false 3 1 s.ns.length (a2v (ptS s))]
   (Det (.sl 9 1 0 (upL s v).length (d1m (upL s v).length)) [gB s.l, ndB s.ns, osB s.os s.hd, osR s.os s.hd, iB false s.dn, iB false s.up, blB s.tr, iB false s.st, .arr false 3 1 s.ns.length (a2v (ptS s)), .arr true 3 1 (upL s v).length (a2v (upL s v).reverse)]) := by
 have hmx : maxLen = 9223372036854775807 := by decide
 obtain ⟨hck, _, _, _⟩ := a2l hc
 obtain ⟨hc1, hc2, _⟩ := a5h hck
 obtain ⟨hN, hn24, _, _⟩ := a16 ok hc
 have hU := a8w ok hc hv
 have hst := fun j h => b3b (s := s) (v := v) (j := j) h
 have hen := c2v ok hc hv
 have hpt := fun x hx => c3j ok hc (x := x) hx
 have hpg : ∀ y, y < s.ns.length -> (ptS s).getD y 0 = ptM s y := b35 s s.ns.length
 have hpr := fun a p => a9d s.n s.l s.c0 ok.hl a p
 rw [<- hc2] at hpr
 have hhd : (upL s v).getD 0 0 = (v : Int) := b4z ..
 generalize upL s v = U at *
 have hl := fun x h => d00 (U := U) (x := x) h
 have h1 := fun x h => c52 (U := U) (x := x) h
 have h0 := fun x h => d4a (U := U) (x := x) h
 have hf := c5s (U := U) (by omega)
 have h00 : rvU U 0 = [(v : Int)] := by rw [c11 (by omega), hhd]; rfl
 rw [<- hf]
 generalize rvU U = R at *
 generalize hPP : ptS s = P at *
 refine Runs.mk a0k Tryz.call32 Tryz.func32 rfl Tryz.ntmps32 Tryz.results32 rfl ?_
 (repeat' (first
  | refine SP ?_
  | refine a0c ?_
  ))
 refine a0p (σ := Nat) (fun x => x < U.length) (fun x => ⟨[(1, .sl 8 1 0 s.ns.length none), (3, .ptr 9 8 0 0), (7, .sl 10 1 0 (x + 1) (d1m (x + 1))), (8, .val (.int .i64 x))], [gB s.l, ndB s.ns, osB s.os s.hd, osR s.os s.hd, iB false s.dn, iB false s.up, blB s.tr, iB false s.st, .arr false 3 1 s.ns.length (a2v P), .var (scV s), .arr true 3 1 (x + 1) (a2v (R x))]⟩) (fun x => U.length - x) (0) ?_ ?_ ?_
 ·omega
 ·rw [h00]
  (apply a04 [some 0, some 1, some 2, some 3, some 4, some 5, some 6, some 7, some 8, some 9, some 10]; (focus (iterate 2 (all_goals (repeat' (first | exact a1f rfl rfl rfl rfl | exact a17 rfl rfl rfl rfl | exact a0g | exact trivial | refine SP ?_ | refine And.intro ?_ ?_ | refine a0d ?_ ?_ | refine a09 ?_ | exact a0z rfl rfl | exact a0r rfl rfl rfl | exact a0b _ _ | exact a0j rfl rfl rfl | refine a0o ?_ ?_ | exact a3c | (apply a3g rfl; (focus (refine a0o ?_ ?_))) ))))); any_goals (apply a0e; rfl))
 rintro x hx
 have hh0 := h0 x hx
 have hux := hU.2 x hx
 obtain ⟨y, hy⟩ := Int.eq_ofNat_of_zero_le hux.1
 rw [hy] at hh0 hux
 have hpy := hpg y (by omega)
 have hz : 0 + Int.toNat 0 = 0 := rfl
 have hzy : 0 + ((R x).getD (0 + Int.toNat 0) 0).toNat = y := by rw [hz, hh0]; omega
 have hpy' : P.getD (0 + ((R x).getD (0 + Int.toNat 0) 0).toNat) 0 = ptM s y := by rw [hzy]; exact hpy
 have hb1 : 0 <= (R x).getD (0 + Int.toNat 0) 0 /\ (R x).getD (0 + Int.toNat 0) 0 < s.ns.length := by rw [hz, hh0]; omega
 by_cases hl1 : x + 1 < U.length
 ·obtain ⟨s1, s2⟩ := hst x hl1
  rw [hy, Int.toNat_natCast] at s1 s2
  rcases hpt y (by omega) with ⟨_, e2⟩ | ⟨⟨e1, e1'⟩, e2, y', q, hy', e3, e4⟩
  ·rw [e2] at s1; exact absurd s1 (by decide)
  have hpr := hpr y (ptM s y)
  rw [e4] at hpr
  have hR1 := h1 x hl1
  rw [<- s2, e3] at hR1
  rw [<- hpy'] at hpr e1 e1'
  rw [show (y : Int) = (R x).getD (0 + Int.toNat 0) 0 by rw [hz, hh0]] at hpr
  generalize R x = C at *
  (repeat' (first
  | refine SP ?_
  | (with_reducible refine a01 ?_)
  | (apply a0a <;> intro hb <;> (try simp only [nS, nT, eq_self, reduceCtorEq] at hb) <;> (try (exfalso; omega)))
  | refine a0q (by decide +kernel) ?_
  | refine a0c ?_
  | refine OB ?_
  | ((first | apply a0m [some 0] (hpr)); exact AS; (any_goals (first | (apply a0s; rfl) )))
  | (apply a0i (Subtype.mk (x + 1) (by first | omega | (simp only; omega))); (focus (rw [hR1]; apply a04 [some 0, some 1, some 2, some 3, some 4, some 5, some 6, some 7, some 8, some 9, some _]; (focus (iterate 2 (all_goals (repeat' (first | exact a1f rfl rfl rfl rfl | exact a17 rfl rfl rfl rfl | exact a0g | exact trivial | refine SP ?_ | refine And.intro ?_ ?_ | refine a0d ?_ ?_ | refine a09 ?_ | exact a0z rfl rfl | exact a0r rfl rfl rfl | exact a0b _ _ | exact a0j rfl rfl rfl | ((first | refine a0f ?_ | refine a0r rfl rfl ?_ ); first | with_reducible rfl | omega | ((try simp only [wS]); omega) | rfl) ))))); any_goals (apply a0e; rfl))); (all_goals (try (first | (simp only; omega)))))
  ))
  all_goals exact c6p (by simp only; omega) rfl
 ·obtain rfl : x = U.length - 1 := by omega
  rw [hy, Int.toNat_natCast] at hen
  rcases hpt y (by omega) with ⟨e1, _⟩ | ⟨_, _, y', q, _, e3, _⟩
  ·rw [<- hpy'] at e1
   rw [show U.length - 1 + 1 = U.length by omega]
   (repeat' (first
  | refine SP ?_
  | (apply a0a <;> intro hb <;> (try simp only [nS, nT, eq_self, reduceCtorEq] at hb) <;> (try (exfalso; omega)))
  | refine a0c ?_
  | refine OB ?_
  | exact RT [some 0, some 1, some 2, some 3, some 4, some 5, some 6, some 7, some 8, some 10]
  ))
  ·rw [hen] at e3; omega
end Go.Vx.L58
set_option maxRecDepth 100000
namespace Go.Vx.L58
open Go Go.Proofs
set_option maxHeartbeats 8000000 in
theorem d0e (s : Scn) (htr : s.tr.length = s.ns.length) (U : List Int) (hU1 : 2 <= U.length) (hU2 : U.length <= 24) (hU : ∀ i, i < U.length -> 0 <= U.getD i 0 /\ U.getD i 0 < s.ns.length) :
  Runs Tryz.prog 33 [scA s, .sl 8 1 0 U.length none] [gB s.l, ndB s.ns, osB s.os s.hd, osR s.os s.hd, iB false s.dn, iB false s.up, blB s.tr, iB false s.st, .arr false 3 1 U.length (a2v U.reverse)]
   (Det (.sl 8 1 (U.length - 1 - wM s.tr U) (wM s.tr U + 1) none) [gB s.l, ndB s.ns, osB s.os s.hd, osR s.os s.hd, iB false s.dn, iB false s.up, blB s.tr, iB false s.st, .arr false 3 1 U.length (a2v U.reverse)]) := by
 have hEs : ∀ f e, wE s.tr U (f + 1) e = if e + 1 < U.length /\ s.tr.getD (U.getD e 0).toNat false = true then wE s.tr U f (e + 1) else e := fun _ _ => rfl
 have hE0 : ∀ e, wE s.tr U 0 e = e := fun _ => rfl
 have hMM : wM s.tr U = min (wE s.tr U (U.length - 1) 1) (U.length - 1) := rfl
 have hEg := c5x s.tr U
 have hrv : ∀ i, i < U.length -> U.reverse.getD i 0 = U.getD (U.length - 1 - i) 0 := fun i h => a5a U i h
 generalize wE s.tr U = W at *
 generalize wM s.tr U = M at *
 generalize U.reverse = L at *
 refine Runs.mk a0k Tryz.call33 Tryz.func33 rfl Tryz.ntmps33 Tryz.results33 rfl ?_
 (repeat' (first
  | refine SP ?_
  | refine a0c ?_
  ))
 refine a0p (σ := Nat) (fun x => 1 <= x /\ x + 1 <= U.length /\ W (U.length - x) x = W (U.length - 1) 1) (fun x => ⟨[(1, .sl 8 1 0 U.length none), (2, .ptr 9 8 0 0), (5, .val (.int .i64 ((U.length : Int) - 1 - x)))], [gB s.l, ndB s.ns, osB s.os s.hd, osR s.os s.hd, iB false s.dn, iB false s.up, blB s.tr, iB false s.st, .arr false 3 1 U.length (a2v L), .var (scV s)]⟩) (fun x => U.length - x) (1) ?_ ?_ ?_
 ·exact ⟨by omega, by omega, rfl⟩
 ·exact LT [some 0, some 1, some 2, some 3, some 4, some 5, some 6, some 7, some 8, some 9]
  all_goals (rw [IntKind.wrap_i64]; omega)
 rintro e ⟨he, hel, hee⟩
 have hu := hU e (by omega)
 have hee' := hEs (U.length - e - 1) e
 rw [show U.length - e - 1 + 1 = U.length - e by omega, hee] at hee'
 have hri := hrv (U.length - 1 - e) (by omega)
 rw [show U.length - 1 - (U.length - 1 - e) = e by omega] at hri
 have hidx : 0 + Int.toNat ((U.length : Int) - 1 - e) = U.length - 1 - e := by omega
 rw [<- hidx] at hri
 rw [<- hri] at hu hee'
 by_cases hl : e + 1 < U.length
 ·cases hh : s.tr.getD (0 + (L.getD (0 + Int.toNat ((U.length : Int) - 1 - e)) 0).toNat) false
  ·rw [if_neg (by rw [<- Nat.zero_add (L.getD _ 0).toNat, hh]; simp)] at hee'
   have hMe : M = e := by omega
   subst hMe
   (repeat' (first
  | refine SP ?_
  | (apply a0a <;> intro hb <;> (try simp only [nS, nT, eq_self, reduceCtorEq] at hb) <;> (try (exfalso; (first | omega | (rw [hh] at hb; cases hb)); done)))
  | refine a0q (by decide +kernel) ?_
  | refine a0c ?_
  | refine OB ?_
  | (apply a0v [some 0, some 1, some 2, some 3, some 4, some 5, some 6, some 7, some 8]; (focus (iterate 2 (all_goals (repeat' (first | exact a1f rfl rfl rfl rfl | exact a17 rfl rfl rfl rfl | exact trivial | refine SP ?_ | refine And.intro ?_ ?_ | exact a0j rfl rfl rfl ))))); any_goals (apply a0e; rfl))
  ))
   all_goals exact a0r rfl (by omega) (by omega)
  ·rw [if_pos ⟨hl, by rw [<- Nat.zero_add (L.getD _ 0).toNat, hh]⟩] at hee'
   have hn : W (U.length - (e + 1)) (e + 1) = W (U.length - 1) 1 := by rw [show U.length - (e + 1) = U.length - e - 1 by omega]; exact hee'.symm
   (repeat' (first
  | refine SP ?_
  | (apply a0a <;> intro hb <;> (try simp only [nS, nT, eq_self, reduceCtorEq] at hb) <;> (try (exfalso; (first | omega | (rw [hh] at hb; cases hb)); done)))
  | refine a0q (by decide +kernel) ?_
  | refine a0c ?_
  | refine OB ?_
  | (apply a0i (Subtype.mk (e + 1) ⟨by omega, by omega, hn⟩); (focus exact LT [some 0, some 1, some 2, some 3, some 4, some 5, some 6, some 7, some 8, some 9]); (all_goals (try (first | (simp only; omega)))))
  ))
   all_goals (rw [IntKind.wrap_i64]; omega)
 ·have hM : M = U.length - 1 := by
   have := hEg (U.length - 1) 1
   rw [if_neg (fun h => hl h.1)] at hee'
   omega
  subst hM
  (repeat' (first
  | refine SP ?_
  | (apply a0a <;> intro hb <;> (try simp only [nS, nT, eq_self, reduceCtorEq] at hb) <;> (try (exfalso; omega)))
  | refine a0c ?_
  | (apply a0v [some 0, some 1, some 2, some 3, some 4, some 5, some 6, some 7, some 8]; (focus (iterate 2 (all_goals (repeat' (first | exact a1f rfl rfl rfl rfl | exact a17 rfl rfl rfl rfl | exact trivial | refine SP ?_ | refine And.intro ?_ ?_ | exact a0j rfl rfl rfl ))))); any_goals (apply a0e; rfl))
  ))
  all_goals exact a0r rfl (by omega) (by omega)
set_option maxHeartbeats 8000000 in
theorem b46 (s : Scn) (hl : s.l.length <= 1000) (h1 : s.dn.length = s.l.length) (h2 : s.up.length = s.l.length) (hne : ∀ i, i < s.l.length -> (s.l.getD i ed0).a ≠ (s.l.getD i ed0).b) (P : List Int) (X : Nat) (hx : X < P.length) (b : Bool) :
  Runs Tryz.prog 34 [scA s, .sl 8 1 0 P.length none, .val (.int .i64 X), .sb b] [gB s.l, ndB s.ns, osB s.os s.hd, osR s.os s.hd, iB false s.dn, iB false s.up, blB s.tr, iB false s.st, .arr false 3 1 P.length (a2v P)]
   (Det (.val (.int .i64 (if b = true then (upF s X (P.getD X 0)).t else (upF s X (P.getD X 0)).b))) [gB s.l, ndB s.ns, osB s.os s.hd, osR s.os s.hd, iB false s.dn, iB false s.up, blB s.tr, iB false s.st, .arr false 3 1 P.length (a2v P)]) := by
 have hmx : maxLen = 9223372036854775807 := by decide
 have hzx : 0 + Int.toNat (X : Int) = X := by omega
 have hpx : P.getD (0 + Int.toNat (X : Int)) 0 = P.getD X 0 := by rw [hzx]
 have hu : ∀ k i, upW s X (P.getD X 0) (k + 1) i = if (s.l.getD i ed0).a = X /\ (s.l.getD i ed0).pa = P.getD X 0 then ⟨(s.l.getD i ed0).b, s.up.getD i 0, s.dn.getD i 0⟩
  else if (s.l.getD i ed0).b = X /\ (s.l.getD i ed0).pb = P.getD X 0 then ⟨(s.l.getD i ed0).a, s.dn.getD i 0, s.up.getD i 0⟩ else upW s X (P.getD X 0) k (i + 1) := fun _ _ => rfl
 have hu0 : ∀ i, upW s X (P.getD X 0) 0 i = ⟨-1, 0, 0⟩ := fun _ => rfl
 have huF : upF s X (P.getD X 0) = upW s X (P.getD X 0) s.l.length 0 := rfl
 rw [huF]
 rw [<- hpx] at hu hu0 ⊢
 generalize hW : upW s X (P.getD (0 + Int.toNat (X : Int)) 0) = W at *
 cases b
 ·simp only [Bool.false_eq_true, if_false]
  refine Runs.mk a0k Tryz.call34 Tryz.func34 rfl Tryz.ntmps34 Tryz.results34 rfl ?_
  (repeat' (first
  | refine SP ?_
  | refine a0c ?_
  ))
  refine a0p (σ := Nat) (fun x => x <= s.l.length /\ W (s.l.length - x) x = W s.l.length 0) (fun x => ⟨[(1, .sl 8 1 0 P.length none), (2, .val (.int .i64 X)), (3, .sb false), (4, .ptr 9 8 0 0), (9, .val (.int .i64 x))], [gB s.l, ndB s.ns, osB s.os s.hd, osR s.os s.hd, iB false s.dn, iB false s.up, blB s.tr, iB false s.st, .arr false 3 1 P.length (a2v P), .var (scV s)]⟩) (fun x => s.l.length - x) (0) ?_ ?_ ?_
  ·exact ⟨by omega, rfl⟩
  ·exact LT [some 0, some 1, some 2, some 3, some 4, some 5, some 6, some 7, some 8, some 9]
  rintro i ⟨hi, hie⟩
  by_cases hil : i < s.l.length
  ·have hz : 0 + Int.toNat (i : Int) = i := by omega
   have hu := hu (s.l.length - (i + 1)) i
   rw [show s.l.length - (i + 1) + 1 = s.l.length - i by omega, hie] at hu
   have hne := hne i hil
   rw [show s.l.getD i ed0 = s.l.getD (0 + Int.toNat (i : Int)) ed0 by rw [hz]] at hu hne
   have hdn : s.dn.getD (0 + Int.toNat (i : Int)) 0 = s.dn.getD i 0 := by rw [hz]
   have hup : s.up.getD (0 + Int.toNat (i : Int)) 0 = s.up.getD i 0 := by rw [hz]
   by_cases c1 : (s.l.getD (0 + Int.toNat (i : Int)) ed0).a = X /\ (s.l.getD (0 + Int.toNat (i : Int)) ed0).pa = P.getD (0 + Int.toNat (X : Int)) 0
   ·rw [if_pos c1] at hu
    rw [hu]
    obtain ⟨c1, c1'⟩ := c1
    (repeat' (first
  | refine SP ?_
  | (with_reducible refine a07 ?_)
  | (apply a0a <;> intro hb <;> (try simp only [nS, nT, eq_self, reduceCtorEq] at hb) <;> (try (exfalso; omega)))
  | refine a0q (by decide +kernel) ?_
  | refine a0c ?_
  | refine OB ?_
  | exact RT [some 0, some 1, some 2, some 3, some 4, some 5, some 6, some 7, some 8]
  ))
    all_goals exact hdn
   ·rw [if_neg c1] at hu
    have c1' : (s.l.getD (0 + Int.toNat (i : Int)) ed0).a = X -> (s.l.getD (0 + Int.toNat (i : Int)) ed0).pa = P.getD (0 + Int.toNat (X : Int)) 0 -> False := fun a b => c1 ⟨a, b⟩
    by_cases c2 : (s.l.getD (0 + Int.toNat (i : Int)) ed0).b = X /\ (s.l.getD (0 + Int.toNat (i : Int)) ed0).pb = P.getD (0 + Int.toNat (X : Int)) 0
    ·rw [if_pos c2] at hu
     rw [hu]
     obtain ⟨c2, c2'⟩ := c2
     (repeat' (first
  | refine SP ?_
  | (with_reducible refine a07 ?_)
  | (apply a0a <;> intro hb <;> (try simp only [nS, nT, eq_self, reduceCtorEq] at hb) <;> (try (exfalso; omega)))
  | refine a0q (by decide +kernel) ?_
  | refine a0c ?_
  | refine OB ?_
  | exact RT [some 0, some 1, some 2, some 3, some 4, some 5, some 6, some 7, some 8]
  ))
     all_goals exact hup
    ·rw [if_neg c2] at hu
     have c2' : (s.l.getD (0 + Int.toNat (i : Int)) ed0).b = X -> (s.l.getD (0 + Int.toNat (i : Int)) ed0).pb = P.getD (0 + Int.toNat (X : Int)) 0 -> False := fun a b => c2 ⟨a, b⟩
     (repeat' (first
  | refine SP ?_
  | (apply a0a <;> intro hb <;> (try simp only [nS, nT, eq_self, reduceCtorEq] at hb) <;> (try (exfalso; omega)))
  | refine a0q (by decide +kernel) ?_
  | refine a0c ?_
  | refine OB ?_
  | (apply a0i (Subtype.mk (i + 1) ⟨by omega, hu.symm⟩); (focus exact LT [some 0, some 1, some 2, some 3, some 4, some 5, some 6, some 7, some 8, some 9]); (all_goals (try (first | (simp only; omega)))))
  ))
     all_goals first | exact absurd hb (fun h => c2' (by assumption) h) | exact absurd hb (fun h => c1' (by assumption) h) | fail
  ·obtain rfl : i = s.l.length := by omega
   rw [Nat.sub_self, hu0] at hie
   rw [<- hie]
   (repeat' (first
  | refine SP ?_
  | (apply a0a <;> intro hb <;> (try simp only [nS, nT, eq_self, reduceCtorEq] at hb) <;> (try (exfalso; omega)))
  | refine a0c ?_
  | exact RT [some 0, some 1, some 2, some 3, some 4, some 5, some 6, some 7, some 8]
  ))
 ·simp only [if_true]
  refine Runs.mk a0k Tryz.call34 Tryz.func34 rfl Tryz.ntmps34 Tryz.results34 rfl ?_
  (repeat' (first
  | refine SP ?_
  | refine a0c ?_
  ))
  refine a0p (σ := Nat) (fun x => x <= s.l.length /\ W (s.l.length - x) x = W s.l.length 0) (fun x => ⟨[(1, .sl 8 1 0 P.length none), (2, .val (.int .i64 X)), (3, .sb true), (4, .ptr 9 8 0 0), (9, .val (.int .i64 x))], [gB s.l, ndB s.ns, osB s.os s.hd, osR s.os s.hd, iB false s.dn, iB false s.up, blB s.tr, iB false s.st, .arr false 3 1 P.length (a2v P), .var (scV s)]⟩) (fun x => s.l.length - x) (0) ?_ ?_ ?_
  ·exact ⟨by omega, rfl⟩
  ·exact LT [some 0, some 1, some 2, some 3, some 4, some 5, some 6, some 7, some 8, some 9]
  rintro i ⟨hi, hie⟩
  by_cases hil : i < s.l.length
  ·have hz : 0 + Int.toNat (i : Int) = i := by omega
   have hu := hu (s.l.length - (i + 1)) i
   rw [show s.l.length - (i + 1) + 1 = s.l.length - i by omega, hie] at hu
   have hne := hne i hil
   rw [show s.l.getD i ed0 = s.l.getD (0 + Int.toNat (i : Int)) ed0 by rw [hz]] at hu hne
   have hdn : s.dn.getD (0 + Int.toNat (i : Int)) 0 = s.dn.getD i 0 := by rw [hz]
   have hup : s.up.getD (0 + Int.toNat (i : Int)) 0 = s.up.getD i 0 := by rw [hz]
   by_cases c1 : (s.l.getD (0 + Int.toNat (i : Int)) ed0).a = X /\ (s.l.getD (0 + Int.toNat (i : Int)) ed0).pa = P.getD (0 + Int.toNat (X : Int)) 0
   ·rw [if_pos c1] at hu
    rw [hu]
    obtain ⟨c1, c1'⟩ := c1
    (repeat' (first
  | refine SP ?_
  | (with_reducible refine a01 ?_)
  | (apply a0a <;> intro hb <;> (try simp only [nS, nT, eq_self, reduceCtorEq] at hb) <;> (try (exfalso; omega)))
  | refine a0q (by decide +kernel) ?_
  | refine a0c ?_
  | refine OB ?_
  | exact RT [some 0, some 1, some 2, some 3, some 4, some 5, some 6, some 7, some 8]
  ))
    all_goals exact hup
   ·rw [if_neg c1] at hu
    have c1' : (s.l.getD (0 + Int.toNat (i : Int)) ed0).a = X -> (s.l.getD (0 + Int.toNat (i : Int)) ed0).pa = P.getD (0 + Int.toNat (X : Int)) 0 -> False := fun a b => c1 ⟨a, b⟩
    by_cases c2 : (s.l.getD (0 + Int.toNat (i : Int)) ed0).b = X /\ (s.l.getD (0 + Int.toNat (i : Int)) ed0).pb = P.getD (0 + Int.toNat (X : Int)) 0
    ·rw [if_pos c2] at hu
     rw [hu]
     obtain ⟨c2, c2'⟩ := c2
     (repeat' (first
  | refine SP ?_
  | (with_reducible refine a01 ?_)
  | (apply a0a <;> intro hb <;> (try simp only [nS, nT, eq_self, reduceCtorEq] at hb) <;> (try (exfalso; omega)))
  | refine a0q (by decide +kernel) ?_
  | refine a0c ?_
  | refine OB ?_
  | exact RT [some 0, some 1, some 2, some 3, some 4, some 5, some 6, some 7, some 8]
  ))
     all_goals exact hdn
    ·rw [if_neg c2] at hu
     have c2' : (s.l.getD (0 + Int.toNat (i : Int)) ed0).b = X -> (s.l.getD (0 + Int.toNat (i : Int)) ed0).pb = P.getD (0 + Int.toNat (X : Int)) 0 -> False := fun a b => c2 ⟨a, b⟩
     (repeat' (first
  | refine SP ?_
  | (apply a0a <;> intro hb <;> (try simp only [nS, nT, eq_self, reduceCtorEq] at hb) <;> (try (exfalso; omega)))
  | refine a0q (by decide +kernel) ?_
  | refine a0c ?_
  | refine OB ?_
  | (apply a0i (Subtype.mk (i + 1) ⟨by omega, hu.symm⟩); (focus exact LT [some 0, some 1, some 2, some 3, some 4, some 5, some 6, some 7, some 8, some 9]); (all_goals (try (first | (simp only; omega)))))
  ))
     all_goals first | exact absurd hb (fun h => c2' (by assumption) h) | exact absurd hb (fun h => c1' (by assumption) h) | fail
  ·obtain rfl : i = s.l.length := by omega
   rw [Nat.sub_self, hu0] at hie
   rw [<- hie]
   (repeat' (first
  | refine SP ?_
  | (apply a0a <;> intro hb <;> (try simp only [nS, nT, eq_self, reduceCtorEq] at hb) <;> (try (exfalso; omega)))
  | refine a0c ?_
  | exact RT [some 0, some 1, some 2, some 3, some 4, some 5, some 6, some 7, some 8]
  ))
end Go.Vx.L58

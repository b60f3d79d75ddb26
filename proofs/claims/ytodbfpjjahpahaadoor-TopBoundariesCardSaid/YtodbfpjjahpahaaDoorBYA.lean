/- Lemmas of a small executor for the model, and contracts of functions, used for the law that this claim proves. No condition. -/
import Derived.Test.YtodbfpjjahpahaaDoorBXPA
set_option linter.unusedSimpArgs false
set_option linter.unusedVariables false
set_option maxRecDepth 100000
namespace Go.Vx.L42.B
open Go Go.Proofs Go.Vx.L42
theorem c6s {x : Nat} (h : x < 1) : x = 0 := by omega
theorem a4h {ρ : Nat -> Option Nat} {c' : Nat -> Nat -> AV} (h : (∃ y, ρ 3 = some y /\ c' 0 0 = .ptr y 24 0 0)) : a3n ρ (clB 1) (.arr true 40 1 1 c') := by
 refine a1w (a39 rfl) rfl fun i hi j hj => ?_
 obtain rfl : j = 0 := by omega
 have h0 := h
 rcases c6s hi with rfl
 ·obtain ⟨y, e1, e2⟩ := h0; rw [e2]; exact a0d e1 rfl
set_option maxHeartbeats 16000000 in
theorem b7n (ns : List Nd) (l : List Ed) (cap cap' : Option Nat) (hl : l.length <= maxLen) (S : Nat -> CS) (at' : Int) (hn : ns.length = 1) (hN : NOK ns l)
  (hD : ∀ j, j < 1 -> wfC (S j) at') (hS : ∀ j, j < 1 -> 0 <= (a07 (S j) at').fol.st /\ (a07 (S j) at').fol.st <= 30)
  (hA : ∀ i x y q, i < 1 -> x < (a16 (a07 (S i) at') 8).length -> (a08 ns l).pe i ((a16 (a07 (S i) at') 8).getD x mg0).port.toNat = some (y, q) ->
   AnnOK (dlL (a08 ns l) at' (((a16 (a07 (S i) at') 8).take x).map (Prod.mk i)) (dlL (a08 ns l) at' (flP S at' i) (fun j => a1v (a07 (S j) at'))) y) (q - 1) ((a16 (a07 (S i) at') 8).getD x mg0) at') :
  Runs Tryd.prog 12 [aN ns.length l cap ns cap', .sl 2 1 0 1 none, .val (.int .i64 at')] [gB l, ndB ns, clB 1, .obj (a1h (S 0))]
   (Det (.val (.bool true)) [gB l, ndB ns, clB 1, .obj (a1h (a4y (a08 ns l) S at' 0))]) := by
 have hc := hN.parts.1
 have hrl := a6f S at'
 refine Runs.mk a1a Tryd.call12 Tryd.func12 rfl Tryd.ntmps12 Tryd.results12 rfl ?_
 (repeat' (first
  | refine SP ?_
  | refine a0l ?_
  ))
 refine a00 (σ := Nat) (fun x => x <= 1) (fun x => ⟨[(1, .sl 2 1 0 1 none), (2, .val (.int .i64 at')), (3, .ptr 4 3 0 0), (7, .sl 5 1 0 x none), (19, .sl 2 1 0 1 none), (20, .val (.int .i64 1)), (21, .val (.int .i64 x))], [gB l, ndB ns, clB 1, .obj (a1h (bif Nat.blt 0 x then a1v (a07 (S 0) at') else S 0)), .var [.val (.int .i64 ns.length), .sl 0 4 0 l.length cap, .sl 1 6 0 ns.length cap'], .fam true 95 104 22 x (a3i mgC mg0 (rwP S at' x)) none 0]⟩) (fun x => 1 - x) (0) ?_ ?_ ?_
 ·omega
 ·(apply a0t [some 0, some 1, some 2, some 3, some 4, none]; (focus (iterate 2 (all_goals (repeat' (first | exact a0e rfl | exact a4h ⟨_, rfl, rfl⟩ | exact a0c | exact trivial | refine SP ?_ | refine And.intro ?_ ?_ | refine a0b ?_ ?_ | refine a0n ?_ | exact a0d rfl rfl | exact a0i rfl rfl rfl | exact a0a _ _ | exact a0f rfl rfl rfl | exact a3a rfl | ((first | show (_ : Nat) = _); first | with_reducible rfl | omega | ((try simp only [wS]); omega) | rfl) | with_reducible rfl ))))); any_goals (apply a0h; rfl))
 rintro x hx
 by_cases hxl : x < 1
 ·have hd := a4l (S x) at' (hD x hxl)
  have hs := a8v (a07 (S x) at') (hS x hxl) (fun i hi => (hD x hxl).an i hi)
  have hlx := hrl x
  have hsx : rwP S at' (x + 1) = rwP S at' x ++ [a16 (a07 (S x) at') 8] := rfl
  clear hD hS hA hrl
  generalize hW : a16 (a07 (S x) at') 8 = W at *
  generalize hq1 : rwP S at' (x + 1) = q1 at *
  generalize rwP S at' x = q at *
  rcases W with _ | ⟨w0, W⟩
  ·rw [List.length_nil] at hs
   rcases c6s hxl with rfl
   ·(repeat' (first
  | refine SP ?_
  | (apply a0g <;> intro hb <;> (try simp only [nS, nT, eq_self, reduceCtorEq] at hb) <;> (try (exfalso; omega)))
  | refine a0l ?_
  | refine OB ?_
  | ((first | apply a0j [some 3] (hd) ); (focus ((iterate 2 (all_goals (repeat' (first | exact a0e rfl | exact a0c | exact trivial | refine SP ?_ | refine And.intro ?_ ?_ | refine a0b ?_ ?_ | exact a0d rfl rfl | exact a0a _ _ )))))); any_goals (apply a0k; rfl))
  | ((first | apply a0j [some 3] (hs) ); (focus ((iterate 2 (all_goals (repeat' (first | exact a0e rfl | exact a0c | exact trivial | refine SP ?_ | refine And.intro ?_ ?_ | refine a0b ?_ ?_ | exact a0d rfl rfl )))))); any_goals (apply a0k; rfl))
  | (apply a0m (Subtype.mk (0 + 1) (by first | omega | (simp only; omega))); (focus (rw [hq1, hsx]; apply a0t [some 0, some 1, some 2, some 3, some 4, some _]; (focus (iterate 2 (all_goals (repeat' (first | exact a0e rfl | exact a4h ⟨_, rfl, rfl⟩ | exact a0c | exact trivial | refine SP ?_ | refine And.intro ?_ ?_ | refine a0b ?_ ?_ | refine a0n ?_ | exact a0d rfl rfl | exact a0i rfl rfl rfl | exact a0a _ _ | exact a0f rfl rfl rfl ))))); any_goals (apply a0h; rfl))); (all_goals (try (first | (simp only; omega)))))
  ))
    all_goals first
     | exact a1e (l := []) (a06 rfl rfl rfl) rfl rfl hlx.symm rfl rfl
     | fail
  ·generalize hWW : (w0 :: W) = WW at *
   have hWl : WW.length = W.length + 1 := by rw [<- hWW]; rfl
   rw [hWl] at hs
   generalize hRR : q ++ [WW] = RR at *
   rcases c6s hxl with rfl
   ·(repeat' (first
  | refine SP ?_
  | (apply a0g <;> intro hb <;> (try simp only [nS, nT, eq_self, reduceCtorEq] at hb) <;> (try (exfalso; omega)))
  | refine a0l ?_
  | refine OB ?_
  | ((first | apply a0j [some 3] (hd) ); (focus ((iterate 2 (all_goals (repeat' (first | exact a0e rfl | exact a0c | exact trivial | refine SP ?_ | refine And.intro ?_ ?_ | refine a0b ?_ ?_ | exact a0d rfl rfl | exact a0a _ _ )))))); any_goals (apply a0k; rfl))
  | ((first | apply a0j [some 3] (hs) ); (focus ((iterate 2 (all_goals (repeat' (first | exact a0e rfl | exact a0c | exact trivial | refine SP ?_ | refine And.intro ?_ ?_ | refine a0b ?_ ?_ | exact a0d rfl rfl )))))); any_goals (apply a0k; rfl))
  | (apply a0m (Subtype.mk (0 + 1) (by first | omega | (simp only; omega))); (focus (rw [hq1, hsx]; apply a0t [some 0, some 1, some 2, some 3, some 4, some _]; (focus (iterate 2 (all_goals (repeat' (first | exact a0e rfl | exact a4h ⟨_, rfl, rfl⟩ | exact a0c | exact trivial | refine SP ?_ | refine And.intro ?_ ?_ | refine a0b ?_ ?_ | refine a0n ?_ | exact a0d rfl rfl | exact a0i rfl rfl rfl | exact a0a _ _ | exact a0f rfl rfl rfl ))))); any_goals (apply a0h; rfl))); (all_goals (try (first | (simp only; omega)))))
  ))
    all_goals first
     | (rw [<- hRR]; refine a1e (l := WW) (a06 rfl ?_ rfl) ?_ rfl hlx.symm rfl rfl <;> omega)
     | fail
 ·obtain rfl : x = 1 := by omega
  have hrn := hrl 1
  (repeat' (first
  | refine SP ?_
  | (apply a0g <;> intro hb <;> (try simp only [nS, nT, eq_self, reduceCtorEq] at hb) <;> (try (exfalso; omega)))
  | refine a0l ?_
  ))
  refine a00 (σ := Nat) (fun x => x <= 1) (fun x => ⟨[(1, .sl 2 1 0 1 none), (2, .val (.int .i64 at')), (3, .ptr 4 3 0 0), (39, .sl 5 1 0 1 none), (40, .val (.int .i64 1)), (41, .val (.int .i64 x))], [gB l, ndB ns, clB 1, .obj (a1h ((dlL (a08 ns l) at' (flP S at' x) (fun j => a1v (a07 (S j) at'))) 0)), .var [.val (.int .i64 ns.length), .sl 0 4 0 l.length cap, .sl 1 6 0 ns.length cap'], .fam true 95 104 22 1 (a3i mgC mg0 (rwP S at' 1)) none 0]⟩) (fun x => 1 - x) (0) ?_ ?_ ?_
  ·omega
  ·(apply a0t [some 0, some 1, some 2, some 3, some 4, some 5]; (focus (iterate 2 (all_goals (repeat' (first | exact a0e rfl | exact a4h ⟨_, rfl, rfl⟩ | exact a0z rfl rfl rfl | exact a0c | exact trivial | refine SP ?_ | refine And.intro ?_ ?_ | refine a0b ?_ ?_ | refine a0n ?_ | exact a0d rfl rfl | exact a0i rfl rfl rfl | exact a0a _ _ | exact a0f rfl rfl rfl ))))); any_goals (apply a0h; rfl))
  rintro z hz
  by_cases hzl : z < 1
  ·have hz0 : 0 + Int.toNat (z : Int) = z := by omega
   have hW : (rwP S at' 1).getD z [] = a16 (a07 (S z) at') 8 := a7a S at' 1 z hzl
   have hTz : dlL (a08 ns l) at' (flP S at' (z + 1)) (fun j => a1v (a07 (S j) at')) = dlL (a08 ns l) at' ((a16 (a07 (S z) at') 8).map (Prod.mk z)) (dlL (a08 ns l) at' (flP S at' z) (fun j => a1v (a07 (S j) at'))) := by
    show dlL _ _ (flP S at' z ++ _) _ = _
    rw [a6l]
   have hAz := fun x y q => hA z x y q hzl
   have hW8 := a42 (a07 (S z) at') 8
   have hPort := fun m (hm : m ∈ a16 (a07 (S z) at') 8) => a62 hm
   clear hD hS hA
   generalize hTz1 : dlL (a08 ns l) at' (flP S at' (z + 1)) (fun j => a1v (a07 (S j) at')) = T1 at *
   generalize dlL (a08 ns l) at' (flP S at' z) (fun j => a1v (a07 (S j) at')) = T at *
   generalize rwP S at' 1 = rs at *
   generalize a16 (a07 (S z) at') 8 = W at *
   have hW2 : (a3i mgC mg0 rs z).1 = W.length := by rw [a1z, hW]
   have hW3 : (a3i mgC mg0 rs (0 + Int.toNat (z : Int))).1 = W.length := by rw [hz0, a1z, hW]
   (repeat' (first
  | refine SP ?_
  | (apply a0g <;> intro hb <;> (try simp only [nS, nT, eq_self, reduceCtorEq] at hb) <;> (try (exfalso; omega)))
  | refine a0l ?_
  | refine OB ?_
  ))
   refine a00 (σ := Nat) (fun x => x <= W.length) (fun x => ⟨[(1, .sl 2 1 0 1 none), (2, .val (.int .i64 at')), (3, .ptr 4 3 0 0), (12, .val (.int .i64 z)), (39, .sl 5 1 0 1 none), (40, .val (.int .i64 1)), (41, .val (.int .i64 z)), (46, .sl 6 22 0 W.length none), (47, .val (.int .i64 W.length)), (48, .val (.int .i64 x))], [gB l, ndB ns, clB 1, .obj (a1h ((dlL (a08 ns l) at' ((W.take x).map (Prod.mk z)) T) 0)), .var [.val (.int .i64 ns.length), .sl 0 4 0 l.length cap, .sl 1 6 0 ns.length cap'], .fam true 95 104 22 1 (a3i mgC mg0 (rs)) none 0, .row 5 z]⟩) (fun x => W.length - x) (0) ?_ ?_ ?_
   ·omega
   ·(apply a0t [some 0, some 1, some 2, some 3, some 4, some 5, some 6]; (focus (iterate 2 (all_goals (repeat' (first | exact a0e rfl | exact a4h ⟨_, rfl, rfl⟩ | exact a0z rfl rfl rfl | (refine a1u rfl ?_) | exact a0c | exact trivial | refine SP ?_ | refine And.intro ?_ ?_ | refine a0b ?_ ?_ | refine a0n ?_ | exact a0d rfl rfl | exact a0i rfl rfl rfl | exact a0a _ _ | exact a0f rfl rfl rfl | ((first | refine a0r ?_ | refine a0i rfl rfl ?_ | show (_ : Nat) = _); first | with_reducible rfl | omega | ((try simp only [wS]); omega) | rfl) ))))); any_goals (apply a0h; rfl))
   rintro j hj
   by_cases hjW : j < W.length
   ·have hzj : 0 + Int.toNat (j : Int) = j := by omega
    have hPe : (rs.getD z []).getD (0 + Int.toNat (j : Int)) mg0 = W.getD j mg0 := by rw [hW, hzj]
    have hT2 : dlL (a08 ns l) at' ((W.take (j + 1)).map (Prod.mk z)) T = dlM (a08 ns l) at' (dlL (a08 ns l) at' ((W.take j).map (Prod.mk z)) T) (z, W.getD j mg0) := a8u _ _ _ _ _ _ hjW
    have hAj := fun y q => hAz j y q hjW
    have hpn := hPort _ (a4v W j hjW)
    have hpp := a7d ns.length l cap hl z (W.getD j mg0).port
    clear hAz hPort
    generalize hq' : dlL (a08 ns l) at' ((W.take (j + 1)).map (Prod.mk z)) T = q' at *
    generalize dlL (a08 ns l) at' ((W.take j).map (Prod.mk z)) T = q at *
    rw [<- hPe] at hT2 hAj hpn hpp
    cases hk : (a1r ns.length l z ((rs.getD z []).getD (0 + Int.toNat (j : Int)) mg0).port).2.2
    ·have hnone : (a08 ns l).pe z ((rs.getD z []).getD (0 + Int.toNat (j : Int)) mg0).port.toNat = none := by
      show (if (a1r ns.length l z (((rs.getD z []).getD (0 + Int.toNat (j : Int)) mg0).port.toNat : Nat)).2.2 = true then _ else _) = none
      rw [hpn, if_neg (by rw [hk]; simp)]
     have e : q' = q := by rw [hT2]; unfold dlM; rw [hnone]
     subst e
     have hh := hk
     clear hAj hT2 hnone
     (repeat' (first
  | refine SP ?_
  | (apply a0g <;> intro hb <;> (try simp only [nS, nT, eq_self, reduceCtorEq] at hb) <;> (try (exfalso; (first | omega | (rw [hh] at hb; cases hb)); done)))
  | refine a0l ?_
  | refine OB ?_
  | ((first | apply a1y (hpp) ); (focus (iterate 2 (all_goals (repeat' (first | exact a0c | exact trivial | refine SP ?_ | refine And.intro ?_ ?_ | refine a0b ?_ ?_ | refine a0o ?_ | exact a0i rfl rfl rfl | exact a0a _ _ | exact a0f rfl rfl rfl ))))); (try (any_goals fail)))
  | (apply a0m (Subtype.mk (j + 1) (by first | omega | (simp only; omega))); (focus (rw [hq']; apply a0t [some 0, some 1, some 2, some 3, some 4, some 5, some 6]; (focus (iterate 2 (all_goals (repeat' (first | exact a0e rfl | exact a4h ⟨_, rfl, rfl⟩ | exact a0z rfl rfl rfl | exact a1u rfl rfl | exact a0c | exact trivial | refine SP ?_ | refine And.intro ?_ ?_ | refine a0b ?_ ?_ | refine a0n ?_ | exact a0d rfl rfl | exact a0i rfl rfl rfl | exact a0a _ _ | exact a0f rfl rfl rfl | ((refine a0r ?_); first | with_reducible rfl | omega | ((try simp only [wS]); omega) | rfl) ))))); any_goals (apply a0h; rfl))); (all_goals (try (first | (simp only; omega)))))
  ))
    ·obtain ⟨y, p, hpe, hy, hp, _⟩ := a5r hc (x := z) (by omega) hk
     have hsome : (a08 ns l).pe z ((rs.getD z []).getD (0 + Int.toNat (j : Int)) mg0).port.toNat = some (y, p.toNat) := by
      show (if (a1r ns.length l z (((rs.getD z []).getD (0 + Int.toNat (j : Int)) mg0).port.toNat : Nat)).2.2 = true then _ else _) = _
      rw [hpn, if_pos hk, hpe]; rfl
     have ha := hAj y p.toNat hsome
     have e : q' = b26 q y (a8z (q y) (p.toNat - 1) ((rs.getD z []).getD (0 + Int.toNat (j : Int)) mg0) at') := by rw [hT2]; unfold dlM; rw [hsome]
     rw [hpe] at hpp
     have hbn := a8j (q y) (p.toNat - 1) ha.hi ((rs.getD z []).getD (0 + Int.toNat (j : Int)) mg0) at' ha.wf ha.t ha.rl ha.ne ha.ok ha.og ha.st
     rw [show (((p.toNat - 1 : Nat) : Int) + 1) = p by omega] at hbn
     clear hAj hT2 hsome ha hpe hk
     subst e
     have hy1 : y < 1 := by omega
     rcases c6s hy1 with rfl
     ·(repeat' (first
  | refine SP ?_
  | (apply a0g <;> intro hb <;> (try simp only [nS, nT, eq_self, reduceCtorEq] at hb) <;> (try (exfalso; omega)))
  ))
   ·obtain rfl : j = W.length := by omega
    rw [List.take_length, <- hTz]
    (repeat' (first
  | refine SP ?_
  | (apply a0g <;> intro hb <;> (try simp only [nS, nT, eq_self, reduceCtorEq] at hb) <;> (try (exfalso; omega)))
  | (apply a0m (Subtype.mk (z + 1) (by first | omega | (simp only; omega))); (focus (rw [hTz1]; apply a0t [some 0, some 1, some 2, some 3, some 4, some 5]; (focus (iterate 2 (all_goals (repeat' (first | exact a0e rfl | exact a4h ⟨_, rfl, rfl⟩ | exact a0z rfl rfl rfl | exact a0c | exact trivial | refine SP ?_ | refine And.intro ?_ ?_ | refine a0b ?_ ?_ | refine a0n ?_ | exact a0d rfl rfl | exact a0i rfl rfl rfl | exact a0a _ _ | exact a0f rfl rfl rfl | ((refine a0r ?_); first | with_reducible rfl | omega | ((try simp only [wS]); omega) | rfl) ))))); any_goals (apply a0h; rfl))); (all_goals (try (first | (simp only; omega)))))
  ))
  ·obtain rfl : z = 1 := by omega
   have e : a4y (a08 ns l) S at' = dlL (a08 ns l) at' (flP S at' 1) (fun j => a1v (a07 (S j) at')) := by unfold a4y; rw [show (a08 ns l).n = 1 from hn]
   rw [e]
   (repeat' (first
  | refine SP ?_
  | (apply a0g <;> intro hb <;> (try simp only [nS, nT, eq_self, reduceCtorEq] at hb) <;> (try (exfalso; omega)))
  | (apply a04 [some 0, some 1, some 2, some 3]; (focus (iterate 2 (all_goals (repeat' (first | exact a0e rfl | exact a4h ⟨_, rfl, rfl⟩ | exact trivial | refine SP ?_ | refine And.intro ?_ ?_ | exact a0a _ _ | exact a0f rfl rfl rfl ))))); any_goals (apply a0h; rfl))
  ))
end Go.Vx.L42.B
set_option maxRecDepth 100000
namespace Go.Vx.L42.B
open Go Go.Proofs Go.Vx.L42
abbrev c9k (b : Nat) : Blk := .arr true 40 1 1 fun i _ => .ptr (b + i) 24 0 0
theorem a7y {ρ : Nat -> Option Nat} {b : Nat} {c' : Nat -> Nat -> AV} (h : (∃ y, ρ (b + 0) = some y /\ c' 0 0 = .ptr y 24 0 0)) : a3n ρ (c9k b) (.arr true 40 1 1 c') := by
 refine a1w (a39 rfl) rfl fun i hi j hj => ?_
 obtain rfl : j = 0 := by omega
 have h0 := h
 rcases c6s hi with rfl
 ·obtain ⟨y, e1, e2⟩ := h0; rw [e2]; exact a0d e1 rfl
set_option maxHeartbeats 16000000 in
theorem c80 (l : List Ed) (cap : Option Nat) (hl : l.length <= maxLen) (hl20 : l.length <= 20) (ns : List Nd) (cap' : Option Nat) (hn : ns.length = 1) (hQ : NQ ns l) (hb0 : ∀ x, x < ns.length -> b67 (ns.getD x nd0) = false) :
  Runs Tryd.prog 3 [aN ns.length l cap ns cap'] [gB l, ndB ns] (Det (.sb true) [gB l, ndB ns]) := by
 have hmx : maxLen = 9223372036854775807 := by decide
 have hcz := hQ.ok.ck
 have hck := a38 ns.length l cap hl ns cap' (by omega)
 have hex := (a2u ns.length l cap hl ns cap' (by omega) hQ.ok.wf).2 hcz
 have hEl := a5z ns l ns.length
 rw [hcz] at hck
 have hw0 := a2f (ns.getD 0 nd0) (a3d hQ (x := 0) (by omega))
 refine Runs.mk a1a Tryd.call3 Tryd.func3 rfl Tryd.ntmps3 Tryd.results3 rfl ?_
 (repeat' (first
  | refine SP ?_
  | (apply a0g <;> intro hb <;> (try simp only [nS, nT, eq_self, reduceCtorEq] at hb) <;> (try (exfalso; omega)))
  | refine a0l ?_
  ))
 refine a00 (σ := Nat) (fun x => x <= ns.length) (fun x => ⟨[(1, .ptr 2 3 0 0), (26, .sl 1 6 0 ns.length cap'), (27, .val (.int .i64 ns.length)), (28, .val (.int .i64 x))], [gB l, ndB ns, .var [.val (.int .i64 ns.length), .sl 0 4 0 l.length cap, .sl 1 6 0 ns.length cap']]⟩) (fun x => ns.length - x) (0) ?_ ?_ ?_
 ·omega
 ·(apply a0t [some 0, some 1, some 2]; (focus (iterate 2 (all_goals (repeat' (first | exact a0c | exact trivial | refine SP ?_ | refine And.intro ?_ ?_ | refine a0b ?_ ?_ | refine a0n ?_ | exact a0d rfl rfl | exact a0i rfl rfl rfl | exact a0a _ _ | exact a0f rfl rfl rfl ))))); any_goals (apply a0h; rfl))
 rintro x hx
 by_cases hxl : x < ns.length
 ·have hz : 0 + Int.toNat (x : Int) = x := by omega
  have hq := of_decide_eq_false (hb0 x hxl)
  rw [<- hz] at hq
  clear hck hex hb0 hQ hcz hw0
  (repeat' (first
  | refine SP ?_
  | (apply a0g <;> intro hb <;> (try simp only [nS, nT, eq_self, reduceCtorEq] at hb) <;> (try (exfalso; omega)))
  | refine a0l ?_
  | refine OB ?_
  | (apply a0m (Subtype.mk (x + 1) _); (focus (apply a0t [some 0, some 1, some 2]; (focus (iterate 2 (all_goals (repeat' (first | exact a0c | exact trivial | refine SP ?_ | refine And.intro ?_ ?_ | refine a0b ?_ ?_ | refine a0n ?_ | exact a0d rfl rfl | exact a0i rfl rfl rfl | exact a0a _ _ | exact a0f rfl rfl rfl | ((refine a0r ?_); first | with_reducible rfl | omega | ((try simp only [wS]); omega) | rfl) ))))); any_goals (apply a0h; rfl))); (all_goals (try (first | omega | (simp only; omega)))))
  ))
 ·obtain rfl : x = ns.length := by omega
  (repeat' (first
  | refine SP ?_
  | (apply a0g <;> intro hb <;> (try simp only [nS, nT, eq_self, reduceCtorEq] at hb) <;> (try (exfalso; omega)))
  | refine a0l ?_
  | ((first | apply a0j [some 0, some 1] (hex) ); (focus ((iterate 2 (all_goals (repeat' (first | exact a0c | exact trivial | refine SP ?_ | refine And.intro ?_ ?_ | refine a0b ?_ ?_ | refine a0o ?_ | exact a0i rfl rfl rfl | exact a0a _ _ | exact a0f rfl rfl rfl )))))); any_goals (apply a0k; rfl))
  | ((first | apply a0j [some 0, some 1] (hck) ); (focus ((iterate 2 (all_goals (repeat' (first | exact a0c | exact trivial | refine SP ?_ | refine And.intro ?_ ?_ | refine a0b ?_ ?_ | refine a0o ?_ | exact a0i rfl rfl rfl | exact a0a _ _ | exact a0f rfl rfl rfl )))))); any_goals (apply a0k; rfl))
  ))
  refine a2m 2 ?_
  (repeat' (first
  | refine SP ?_
  | (with_reducible refine a1k ?_)
  | (apply a0g <;> intro hb <;> (try simp only [nS, nT, eq_self, reduceCtorEq] at hb) <;> (try (exfalso; (first | omega | (simp only [IntKind.wrap_i64] at hb; omega)); done)))
  | refine a0l ?_
  | refine OB ?_
  | ((first | apply a0j [] (hw0) ); (focus ((iterate 2 (all_goals (repeat' (first | exact a0c | exact trivial | refine And.intro ?_ ?_ | refine a0b ?_ ?_ | refine a0o ?_ | exact a0a _ _ )))); done)); any_goals (apply a0k; rfl))
  ))
  refine a00 (σ := Nat) (fun x => x <= 30) (fun x => ⟨[(1, .ptr 2 3 0 0), (5, .sl 3 2 0 ns.length none), (7, .sl 4 1 0 1 none), (11, .val (.int .i64 (atK x)))], [gB l, ndB ns, .var [.val (.int .i64 ns.length), .sl 0 4 0 l.length cap, .sl 1 6 0 ns.length cap'], chB true (exL ns l ns.length), c9k 5, .obj (a1h (stS ns l x 0))]⟩) (fun x => 30 - x) (0) ?_ ?_ ?_
  ·omega
  ·(apply a0t [some 0, some 1, some 2, some 3, some 7, some 5]; (focus (iterate 2 (all_goals (repeat' (first | exact a0e rfl | exact a7y ⟨_, rfl, rfl⟩ | exact a0c | exact trivial | refine SP ?_ | refine And.intro ?_ ?_ | refine a0b ?_ ?_ | refine a0n ?_ | exact a0d rfl rfl | exact a0i rfl rfl rfl | exact a0a _ _ | exact a0f rfl rfl rfl | exact a06 rfl rfl rfl ))))); any_goals (apply a0h; rfl))
  rintro k hk
  have hat := a2w k
  have hat1 := a2w (k + 1)
  by_cases hkl : k < 30
  ·have hS := a69 hQ k hk
   have hr := b7n ns l cap cap' hl (stS ns l k) (atK k) hn hQ.ok (fun j hj => b1i hQ (by omega) hS (by omega)) (fun j hj => b7w hQ (by omega) hS (by omega)) (fun i x y q hi hx hp => b7x hQ (by omega) hS i x y q (by omega) hx hp)
   have hs1 := a6q (ns := ns) (l := l) k
   clear hck hex hb0 hQ hcz hS hw0
   generalize hq1 : stS ns l (k + 1) = S1 at *
   generalize a4y (a08 ns l) (stS ns l k) (atK k) = S2 at *
   generalize stS ns l k = S at *
   (repeat' (first
  | refine SP ?_
  | (apply a0g <;> intro hb <;> (try simp only [nS, nT, eq_self, reduceCtorEq] at hb) <;> (try (exfalso; omega)))
  | refine a0l ?_
  | ((first | apply a0j [some 0, some 1, some 4, some 5] (hr) ); (focus ((iterate 2 (all_goals (repeat' (first | exact a0e rfl | exact a4h ⟨_, rfl, rfl⟩ | exact a0c | exact trivial | refine SP ?_ | refine And.intro ?_ ?_ | refine a0b ?_ ?_ | refine a0o ?_ | exact a0i rfl rfl rfl | exact a0a _ _ | exact a0f rfl rfl rfl )))))); any_goals (apply a0k; rfl))
  | (apply a0m (Subtype.mk (k + 1) (by first | omega | (simp only; omega))); (focus (rw [hq1, hs1]; apply a0t [some 0, some 1, some 2, some 3, some 4, some 5]; (focus (iterate 2 (all_goals (repeat' (first | exact a0e rfl | exact a7y ⟨_, rfl, rfl⟩ | exact a0c | exact trivial | refine SP ?_ | refine And.intro ?_ ?_ | refine a0b ?_ ?_ | refine a0n ?_ | exact a0d rfl rfl | exact a0i rfl rfl rfl | exact a0a _ _ | exact a0f rfl rfl rfl | ((refine a0r ?_); first | with_reducible rfl | omega | ((try simp only [wS]); omega) | rfl) ))))); any_goals (apply a0h; rfl))); (all_goals (try (first | (simp only; omega)))))
  ))
  ·obtain rfl : k = 30 := by omega
   have hE := fun i (hi : i < ns.length) => b1s hQ (by omega) hi
   clear hck hex hb0 hQ hcz hw0
   generalize stS ns l 30 = S at *
   generalize exL ns l ns.length = E at *
   (repeat' (first
  | refine SP ?_
  | (apply a0g <;> intro hb <;> (try simp only [nS, nT, eq_self, reduceCtorEq] at hb) <;> (try (exfalso; omega)))
  | refine a0l ?_
  ))
   refine a00 (σ := Nat) (fun x => x <= 1) (fun x => ⟨[(1, .ptr 2 3 0 0), (5, .sl 3 2 0 ns.length none), (7, .sl 4 1 0 1 none), (96, .sl 4 1 0 1 none), (97, .val (.int .i64 1)), (98, .val (.int .i64 x))], [gB l, ndB ns, .var [.val (.int .i64 ns.length), .sl 0 4 0 l.length cap, .sl 1 6 0 ns.length cap'], chB true E, c9k 5, .obj (a1h (S 0))]⟩) (fun x => 1 - x) (0) ?_ ?_ ?_
   ·omega
   ·(apply a0t [some 0, some 1, some 2, some 3, some 4, some 5]; (focus (iterate 2 (all_goals (repeat' (first | exact a0e rfl | exact a7y ⟨_, rfl, rfl⟩ | exact a0c | exact trivial | refine SP ?_ | refine And.intro ?_ ?_ | refine a0b ?_ ?_ | refine a0n ?_ | exact a0d rfl rfl | exact a0i rfl rfl rfl | exact a0a _ _ | exact a0f rfl rfl rfl ))))); any_goals (apply a0h; rfl))
   rintro i hi
   by_cases hil : i < 1
   ·have hz : 0 + Int.toNat (i : Int) = i := by omega
    obtain ⟨e1, e2, e3, e4⟩ := hE i (by omega)
    rw [<- Nat.zero_add ((E.getD i ch0).m).toNat] at e2
    rw [show E.getD i ch0 = E.getD (0 + Int.toNat (i : Int)) ch0 by rw [hz]] at e1 e2 e3 e4
    have hp := a5d (S i)
    clear hE
    rcases c6s hil with rfl
    ·(repeat' (first
  | refine SP ?_
  | (apply a0g <;> intro hb <;> (try simp only [nS, nT, eq_self, reduceCtorEq] at hb) <;> (try (exfalso; (first | omega | (simp only [IntKind.wrap_i64] at hb; omega)); done)))
  | refine a0u (by decide +kernel) ?_
  | refine a0l ?_
  | refine OB ?_
  | ((first | apply a0s [some 5] (hp)); (focus ((iterate 2 (all_goals (repeat' (first | exact a0e rfl | exact a0c | exact trivial | refine SP ?_ | refine And.intro ?_ ?_ | refine a0b ?_ ?_ | exact a0d rfl rfl )))))); (any_goals (first | (apply a0v; rfl) )))
  | (apply a0m (Subtype.mk (0 + 1) _); (focus (apply a0t [some 0, some 1, some 2, some 3, some 4, some 5]; (focus (iterate 2 (all_goals (repeat' (first | exact a0e rfl | exact a7y ⟨_, rfl, rfl⟩ | exact a0c | exact trivial | refine SP ?_ | refine And.intro ?_ ?_ | refine a0b ?_ ?_ | refine a0n ?_ | exact a0d rfl rfl | exact a0i rfl rfl rfl | exact a0a _ _ | exact a0f rfl rfl rfl ))))); any_goals (apply a0h; rfl))); (all_goals (try (first | omega | (simp only; omega)))))
  ))
   ·obtain rfl : i = 1 := by omega
    (repeat' (first
  | refine SP ?_
  | (apply a0g <;> intro hb <;> (try simp only [nS, nT, eq_self, reduceCtorEq] at hb) <;> (try (exfalso; omega)))
  | (apply a04 [some 0, some 1]; (focus (iterate 2 (all_goals (repeat' (first | exact trivial | refine SP ?_ | refine And.intro ?_ ?_ | exact a1j rfl | exact a0f rfl rfl rfl ))))); any_goals (apply a0h; rfl))
  ))
end Go.Vx.L42.B
set_option maxRecDepth 100000
namespace Go.Vx.L42.B
open Go Go.Proofs Go.Vx.L42
theorem c6r {x : Nat} (h : x < 2) : x = 0 \/ x = 1 := by omega
theorem a2y {ρ : Nat -> Option Nat} {c' : Nat -> Nat -> AV} (h : (∃ y, ρ 3 = some y /\ c' 0 0 = .ptr y 24 0 0) /\ (∃ y, ρ 4 = some y /\ c' 1 0 = .ptr y 24 0 0)) : a3n ρ (clB 2) (.arr true 40 1 2 c') := by
 refine a1w (a39 rfl) rfl fun i hi j hj => ?_
 obtain rfl : j = 0 := by omega
 obtain ⟨h0, h1⟩ := h
 rcases c6r hi with rfl | rfl
 ·obtain ⟨y, e1, e2⟩ := h0; rw [e2]; exact a0d e1 rfl
 ·obtain ⟨y, e1, e2⟩ := h1; rw [e2]; exact a0d e1 rfl
set_option maxHeartbeats 16000000 in
theorem b7d (ns : List Nd) (l : List Ed) (cap cap' : Option Nat) (hl : l.length <= maxLen) (S : Nat -> CS) (at' : Int) (hn : ns.length = 2) (hN : NOK ns l)
  (hD : ∀ j, j < 2 -> wfC (S j) at') (hS : ∀ j, j < 2 -> 0 <= (a07 (S j) at').fol.st /\ (a07 (S j) at').fol.st <= 30)
  (hA : ∀ i x y q, i < 2 -> x < (a16 (a07 (S i) at') 8).length -> (a08 ns l).pe i ((a16 (a07 (S i) at') 8).getD x mg0).port.toNat = some (y, q) ->
   AnnOK (dlL (a08 ns l) at' (((a16 (a07 (S i) at') 8).take x).map (Prod.mk i)) (dlL (a08 ns l) at' (flP S at' i) (fun j => a1v (a07 (S j) at'))) y) (q - 1) ((a16 (a07 (S i) at') 8).getD x mg0) at') :
  Runs Tryd.prog 12 [aN ns.length l cap ns cap', .sl 2 1 0 2 none, .val (.int .i64 at')] [gB l, ndB ns, clB 2, .obj (a1h (S 0)), .obj (a1h (S 1))]
   (Det (.val (.bool true)) [gB l, ndB ns, clB 2, .obj (a1h (a4y (a08 ns l) S at' 0)), .obj (a1h (a4y (a08 ns l) S at' 1))]) := by
 have hc := hN.parts.1
 have hrl := a6f S at'
 refine Runs.mk a1a Tryd.call12 Tryd.func12 rfl Tryd.ntmps12 Tryd.results12 rfl ?_
 (repeat' (first
  | refine SP ?_
  | refine a0l ?_
  ))
 refine a00 (σ := Nat) (fun x => x <= 2) (fun x => ⟨[(1, .sl 2 1 0 2 none), (2, .val (.int .i64 at')), (3, .ptr 5 3 0 0), (7, .sl 6 1 0 x none), (19, .sl 2 1 0 2 none), (20, .val (.int .i64 2)), (21, .val (.int .i64 x))], [gB l, ndB ns, clB 2, .obj (a1h (bif Nat.blt 0 x then a1v (a07 (S 0) at') else S 0)), .obj (a1h (bif Nat.blt 1 x then a1v (a07 (S 1) at') else S 1)), .var [.val (.int .i64 ns.length), .sl 0 4 0 l.length cap, .sl 1 6 0 ns.length cap'], .fam true 95 104 22 x (a3i mgC mg0 (rwP S at' x)) none 0]⟩) (fun x => 2 - x) (0) ?_ ?_ ?_
 ·omega
 ·(apply a0t [some 0, some 1, some 2, some 3, some 4, some 5, none]; (focus (iterate 2 (all_goals (repeat' (first | exact a0e rfl | exact a2y ⟨⟨_, rfl, rfl⟩, ⟨_, rfl, rfl⟩⟩ | exact a0c | exact trivial | refine SP ?_ | refine And.intro ?_ ?_ | refine a0b ?_ ?_ | refine a0n ?_ | exact a0d rfl rfl | exact a0i rfl rfl rfl | exact a0a _ _ | exact a0f rfl rfl rfl | exact a3a rfl | ((first | show (_ : Nat) = _); first | with_reducible rfl | omega | ((try simp only [wS]); omega) | rfl) | with_reducible rfl ))))); any_goals (apply a0h; rfl))
 rintro x hx
 by_cases hxl : x < 2
 ·have hd := a4l (S x) at' (hD x hxl)
  have hs := a8v (a07 (S x) at') (hS x hxl) (fun i hi => (hD x hxl).an i hi)
  have hlx := hrl x
  have hsx : rwP S at' (x + 1) = rwP S at' x ++ [a16 (a07 (S x) at') 8] := rfl
  clear hD hS hA hrl
  generalize hW : a16 (a07 (S x) at') 8 = W at *
  generalize hq1 : rwP S at' (x + 1) = q1 at *
  generalize rwP S at' x = q at *
  rcases W with _ | ⟨w0, W⟩
  ·rw [List.length_nil] at hs
   rcases c6r hxl with rfl | rfl
   ·(repeat' (first
  | refine SP ?_
  | (apply a0g <;> intro hb <;> (try simp only [nS, nT, eq_self, reduceCtorEq] at hb) <;> (try (exfalso; omega)))
  | refine a0l ?_
  | refine OB ?_
  | ((first | apply a0j [some 3] (hd) ); (focus ((iterate 2 (all_goals (repeat' (first | exact a0e rfl | exact a0c | exact trivial | refine SP ?_ | refine And.intro ?_ ?_ | refine a0b ?_ ?_ | exact a0d rfl rfl | exact a0a _ _ )))))); any_goals (apply a0k; rfl))
  | ((first | apply a0j [some 3] (hs) ); (focus ((iterate 2 (all_goals (repeat' (first | exact a0e rfl | exact a0c | exact trivial | refine SP ?_ | refine And.intro ?_ ?_ | refine a0b ?_ ?_ | exact a0d rfl rfl )))))); any_goals (apply a0k; rfl))
  | (apply a0m (Subtype.mk (0 + 1) (by first | omega | (simp only; omega))); (focus (rw [hq1, hsx]; apply a0t [some 0, some 1, some 2, some 3, some 4, some 5, some _]; (focus (iterate 2 (all_goals (repeat' (first | exact a0e rfl | exact a2y ⟨⟨_, rfl, rfl⟩, ⟨_, rfl, rfl⟩⟩ | exact a0c | exact trivial | refine SP ?_ | refine And.intro ?_ ?_ | refine a0b ?_ ?_ | refine a0n ?_ | exact a0d rfl rfl | exact a0i rfl rfl rfl | exact a0a _ _ | exact a0f rfl rfl rfl ))))); any_goals (apply a0h; rfl))); (all_goals (try (first | (simp only; omega)))))
  ))
    all_goals first
     | exact a1e (l := []) (a06 rfl rfl rfl) rfl rfl hlx.symm rfl rfl
     | fail
   ·(repeat' (first
  | refine SP ?_
  | (apply a0g <;> intro hb <;> (try simp only [nS, nT, eq_self, reduceCtorEq] at hb) <;> (try (exfalso; omega)))
  | refine a0l ?_
  | refine OB ?_
  | ((first | apply a0j [some 4] (hd) ); (focus ((iterate 2 (all_goals (repeat' (first | exact a0e rfl | exact a0c | exact trivial | refine SP ?_ | refine And.intro ?_ ?_ | refine a0b ?_ ?_ | exact a0d rfl rfl | exact a0a _ _ )))))); any_goals (apply a0k; rfl))
  | ((first | apply a0j [some 4] (hs) ); (focus ((iterate 2 (all_goals (repeat' (first | exact a0e rfl | exact a0c | exact trivial | refine SP ?_ | refine And.intro ?_ ?_ | refine a0b ?_ ?_ | exact a0d rfl rfl )))))); any_goals (apply a0k; rfl))
  | (apply a0m (Subtype.mk (1 + 1) (by first | omega | (simp only; omega))); (focus (rw [hq1, hsx]; apply a0t [some 0, some 1, some 2, some 3, some 4, some 5, some _]; (focus (iterate 2 (all_goals (repeat' (first | exact a0e rfl | exact a2y ⟨⟨_, rfl, rfl⟩, ⟨_, rfl, rfl⟩⟩ | exact a0c | exact trivial | refine SP ?_ | refine And.intro ?_ ?_ | refine a0b ?_ ?_ | refine a0n ?_ | exact a0d rfl rfl | exact a0i rfl rfl rfl | exact a0a _ _ | exact a0f rfl rfl rfl ))))); any_goals (apply a0h; rfl))); (all_goals (try (first | (simp only; omega)))))
  ))
    all_goals first
     | exact a1e (l := []) (a06 rfl rfl rfl) rfl rfl hlx.symm rfl rfl
     | fail
  ·generalize hWW : (w0 :: W) = WW at *
   have hWl : WW.length = W.length + 1 := by rw [<- hWW]; rfl
   rw [hWl] at hs
   generalize hRR : q ++ [WW] = RR at *
   rcases c6r hxl with rfl | rfl
   ·(repeat' (first
  | refine SP ?_
  | (apply a0g <;> intro hb <;> (try simp only [nS, nT, eq_self, reduceCtorEq] at hb) <;> (try (exfalso; omega)))
  | refine a0l ?_
  | refine OB ?_
  | ((first | apply a0j [some 3] (hd) ); (focus ((iterate 2 (all_goals (repeat' (first | exact a0e rfl | exact a0c | exact trivial | refine SP ?_ | refine And.intro ?_ ?_ | refine a0b ?_ ?_ | exact a0d rfl rfl | exact a0a _ _ )))))); any_goals (apply a0k; rfl))
  | ((first | apply a0j [some 3] (hs) ); (focus ((iterate 2 (all_goals (repeat' (first | exact a0e rfl | exact a0c | exact trivial | refine SP ?_ | refine And.intro ?_ ?_ | refine a0b ?_ ?_ | exact a0d rfl rfl )))))); any_goals (apply a0k; rfl))
  | (apply a0m (Subtype.mk (0 + 1) (by first | omega | (simp only; omega))); (focus (rw [hq1, hsx]; apply a0t [some 0, some 1, some 2, some 3, some 4, some 5, some _]; (focus (iterate 2 (all_goals (repeat' (first | exact a0e rfl | exact a2y ⟨⟨_, rfl, rfl⟩, ⟨_, rfl, rfl⟩⟩ | exact a0c | exact trivial | refine SP ?_ | refine And.intro ?_ ?_ | refine a0b ?_ ?_ | refine a0n ?_ | exact a0d rfl rfl | exact a0i rfl rfl rfl | exact a0a _ _ | exact a0f rfl rfl rfl ))))); any_goals (apply a0h; rfl))); (all_goals (try (first | (simp only; omega)))))
  ))
    all_goals first
     | (rw [<- hRR]; refine a1e (l := WW) (a06 rfl ?_ rfl) ?_ rfl hlx.symm rfl rfl <;> omega)
     | fail
   ·(repeat' (first
  | refine SP ?_
  | (apply a0g <;> intro hb <;> (try simp only [nS, nT, eq_self, reduceCtorEq] at hb) <;> (try (exfalso; omega)))
  | refine a0l ?_
  | refine OB ?_
  | ((first | apply a0j [some 4] (hd) ); (focus ((iterate 2 (all_goals (repeat' (first | exact a0e rfl | exact a0c | exact trivial | refine SP ?_ | refine And.intro ?_ ?_ | refine a0b ?_ ?_ | exact a0d rfl rfl | exact a0a _ _ )))))); any_goals (apply a0k; rfl))
  | ((first | apply a0j [some 4] (hs) ); (focus ((iterate 2 (all_goals (repeat' (first | exact a0e rfl | exact a0c | exact trivial | refine SP ?_ | refine And.intro ?_ ?_ | refine a0b ?_ ?_ | exact a0d rfl rfl )))))); any_goals (apply a0k; rfl))
  | (apply a0m (Subtype.mk (1 + 1) (by first | omega | (simp only; omega))); (focus (rw [hq1, hsx]; apply a0t [some 0, some 1, some 2, some 3, some 4, some 5, some _]; (focus (iterate 2 (all_goals (repeat' (first | exact a0e rfl | exact a2y ⟨⟨_, rfl, rfl⟩, ⟨_, rfl, rfl⟩⟩ | exact a0c | exact trivial | refine SP ?_ | refine And.intro ?_ ?_ | refine a0b ?_ ?_ | refine a0n ?_ | exact a0d rfl rfl | exact a0i rfl rfl rfl | exact a0a _ _ | exact a0f rfl rfl rfl ))))); any_goals (apply a0h; rfl))); (all_goals (try (first | (simp only; omega)))))
  ))
    all_goals first
     | (rw [<- hRR]; refine a1e (l := WW) (a06 rfl ?_ rfl) ?_ rfl hlx.symm rfl rfl <;> omega)
     | fail
 ·obtain rfl : x = 2 := by omega
  have hrn := hrl 2
  (repeat' (first
  | refine SP ?_
  | (apply a0g <;> intro hb <;> (try simp only [nS, nT, eq_self, reduceCtorEq] at hb) <;> (try (exfalso; omega)))
  | refine a0l ?_
  ))
  refine a00 (σ := Nat) (fun x => x <= 2) (fun x => ⟨[(1, .sl 2 1 0 2 none), (2, .val (.int .i64 at')), (3, .ptr 5 3 0 0), (39, .sl 6 1 0 2 none), (40, .val (.int .i64 2)), (41, .val (.int .i64 x))], [gB l, ndB ns, clB 2, .obj (a1h ((dlL (a08 ns l) at' (flP S at' x) (fun j => a1v (a07 (S j) at'))) 0)), .obj (a1h ((dlL (a08 ns l) at' (flP S at' x) (fun j => a1v (a07 (S j) at'))) 1)), .var [.val (.int .i64 ns.length), .sl 0 4 0 l.length cap, .sl 1 6 0 ns.length cap'], .fam true 95 104 22 2 (a3i mgC mg0 (rwP S at' 2)) none 0]⟩) (fun x => 2 - x) (0) ?_ ?_ ?_
  ·omega
  ·(apply a0t [some 0, some 1, some 2, some 3, some 4, some 5, some 6]; (focus (iterate 2 (all_goals (repeat' (first | exact a0e rfl | exact a2y ⟨⟨_, rfl, rfl⟩, ⟨_, rfl, rfl⟩⟩ | exact a0z rfl rfl rfl | exact a0c | exact trivial | refine SP ?_ | refine And.intro ?_ ?_ | refine a0b ?_ ?_ | refine a0n ?_ | exact a0d rfl rfl | exact a0i rfl rfl rfl | exact a0a _ _ | exact a0f rfl rfl rfl ))))); any_goals (apply a0h; rfl))
  rintro z hz
  by_cases hzl : z < 2
  ·have hz0 : 0 + Int.toNat (z : Int) = z := by omega
   have hW : (rwP S at' 2).getD z [] = a16 (a07 (S z) at') 8 := a7a S at' 2 z hzl
   have hTz : dlL (a08 ns l) at' (flP S at' (z + 1)) (fun j => a1v (a07 (S j) at')) = dlL (a08 ns l) at' ((a16 (a07 (S z) at') 8).map (Prod.mk z)) (dlL (a08 ns l) at' (flP S at' z) (fun j => a1v (a07 (S j) at'))) := by
    show dlL _ _ (flP S at' z ++ _) _ = _
    rw [a6l]
   have hAz := fun x y q => hA z x y q hzl
   have hW8 := a42 (a07 (S z) at') 8
   have hPort := fun m (hm : m ∈ a16 (a07 (S z) at') 8) => a62 hm
   clear hD hS hA
   generalize hTz1 : dlL (a08 ns l) at' (flP S at' (z + 1)) (fun j => a1v (a07 (S j) at')) = T1 at *
   generalize dlL (a08 ns l) at' (flP S at' z) (fun j => a1v (a07 (S j) at')) = T at *
   generalize rwP S at' 2 = rs at *
   generalize a16 (a07 (S z) at') 8 = W at *
   have hW2 : (a3i mgC mg0 rs z).1 = W.length := by rw [a1z, hW]
   have hW3 : (a3i mgC mg0 rs (0 + Int.toNat (z : Int))).1 = W.length := by rw [hz0, a1z, hW]
   (repeat' (first
  | refine SP ?_
  | (apply a0g <;> intro hb <;> (try simp only [nS, nT, eq_self, reduceCtorEq] at hb) <;> (try (exfalso; omega)))
  | refine a0l ?_
  | refine OB ?_
  ))
   refine a00 (σ := Nat) (fun x => x <= W.length) (fun x => ⟨[(1, .sl 2 1 0 2 none), (2, .val (.int .i64 at')), (3, .ptr 5 3 0 0), (12, .val (.int .i64 z)), (39, .sl 6 1 0 2 none), (40, .val (.int .i64 2)), (41, .val (.int .i64 z)), (46, .sl 7 22 0 W.length none), (47, .val (.int .i64 W.length)), (48, .val (.int .i64 x))], [gB l, ndB ns, clB 2, .obj (a1h ((dlL (a08 ns l) at' ((W.take x).map (Prod.mk z)) T) 0)), .obj (a1h ((dlL (a08 ns l) at' ((W.take x).map (Prod.mk z)) T) 1)), .var [.val (.int .i64 ns.length), .sl 0 4 0 l.length cap, .sl 1 6 0 ns.length cap'], .fam true 95 104 22 2 (a3i mgC mg0 (rs)) none 0, .row 6 z]⟩) (fun x => W.length - x) (0) ?_ ?_ ?_
   ·omega
   ·(apply a0t [some 0, some 1, some 2, some 3, some 4, some 5, some 6, some 7]; (focus (iterate 2 (all_goals (repeat' (first | exact a0e rfl | exact a2y ⟨⟨_, rfl, rfl⟩, ⟨_, rfl, rfl⟩⟩ | exact a0z rfl rfl rfl | (refine a1u rfl ?_) | exact a0c | exact trivial | refine SP ?_ | refine And.intro ?_ ?_ | refine a0b ?_ ?_ | refine a0n ?_ | exact a0d rfl rfl | exact a0i rfl rfl rfl | exact a0a _ _ | exact a0f rfl rfl rfl | ((first | refine a0r ?_ | refine a0i rfl rfl ?_ | show (_ : Nat) = _); first | with_reducible rfl | omega | ((try simp only [wS]); omega) | rfl) ))))); any_goals (apply a0h; rfl))
   rintro j hj
   by_cases hjW : j < W.length
   ·have hzj : 0 + Int.toNat (j : Int) = j := by omega
    have hPe : (rs.getD z []).getD (0 + Int.toNat (j : Int)) mg0 = W.getD j mg0 := by rw [hW, hzj]
    have hT2 : dlL (a08 ns l) at' ((W.take (j + 1)).map (Prod.mk z)) T = dlM (a08 ns l) at' (dlL (a08 ns l) at' ((W.take j).map (Prod.mk z)) T) (z, W.getD j mg0) := a8u _ _ _ _ _ _ hjW
    have hAj := fun y q => hAz j y q hjW
    have hpn := hPort _ (a4v W j hjW)
    have hpp := a7d ns.length l cap hl z (W.getD j mg0).port
    clear hAz hPort
    generalize hq' : dlL (a08 ns l) at' ((W.take (j + 1)).map (Prod.mk z)) T = q' at *
    generalize dlL (a08 ns l) at' ((W.take j).map (Prod.mk z)) T = q at *
    rw [<- hPe] at hT2 hAj hpn hpp
    cases hk : (a1r ns.length l z ((rs.getD z []).getD (0 + Int.toNat (j : Int)) mg0).port).2.2
    ·have hnone : (a08 ns l).pe z ((rs.getD z []).getD (0 + Int.toNat (j : Int)) mg0).port.toNat = none := by
      show (if (a1r ns.length l z (((rs.getD z []).getD (0 + Int.toNat (j : Int)) mg0).port.toNat : Nat)).2.2 = true then _ else _) = none
      rw [hpn, if_neg (by rw [hk]; simp)]
     have e : q' = q := by rw [hT2]; unfold dlM; rw [hnone]
     subst e
     have hh := hk
     clear hAj hT2 hnone
     (repeat' (first
  | refine SP ?_
  | (apply a0g <;> intro hb <;> (try simp only [nS, nT, eq_self, reduceCtorEq] at hb) <;> (try (exfalso; (first | omega | (rw [hh] at hb; cases hb)); done)))
  | refine a0l ?_
  | refine OB ?_
  | ((first | apply a1y (hpp) ); (focus (iterate 2 (all_goals (repeat' (first | exact a0c | exact trivial | refine SP ?_ | refine And.intro ?_ ?_ | refine a0b ?_ ?_ | refine a0o ?_ | exact a0i rfl rfl rfl | exact a0a _ _ | exact a0f rfl rfl rfl ))))); (try (any_goals fail)))
  | (apply a0m (Subtype.mk (j + 1) (by first | omega | (simp only; omega))); (focus (rw [hq']; apply a0t [some 0, some 1, some 2, some 3, some 4, some 5, some 6, some 7]; (focus (iterate 2 (all_goals (repeat' (first | exact a0e rfl | exact a2y ⟨⟨_, rfl, rfl⟩, ⟨_, rfl, rfl⟩⟩ | exact a0z rfl rfl rfl | exact a1u rfl rfl | exact a0c | exact trivial | refine SP ?_ | refine And.intro ?_ ?_ | refine a0b ?_ ?_ | refine a0n ?_ | exact a0d rfl rfl | exact a0i rfl rfl rfl | exact a0a _ _ | exact a0f rfl rfl rfl | ((refine a0r ?_); first | with_reducible rfl | omega | ((try simp only [wS]); omega) | rfl) ))))); any_goals (apply a0h; rfl))); (all_goals (try (first | (simp only; omega)))))
  ))
    ·obtain ⟨y, p, hpe, hy, hp, _⟩ := a5r hc (x := z) (by omega) hk
     have hsome : (a08 ns l).pe z ((rs.getD z []).getD (0 + Int.toNat (j : Int)) mg0).port.toNat = some (y, p.toNat) := by
      show (if (a1r ns.length l z (((rs.getD z []).getD (0 + Int.toNat (j : Int)) mg0).port.toNat : Nat)).2.2 = true then _ else _) = _
      rw [hpn, if_pos hk, hpe]; rfl
     have ha := hAj y p.toNat hsome
     have e : q' = b26 q y (a8z (q y) (p.toNat - 1) ((rs.getD z []).getD (0 + Int.toNat (j : Int)) mg0) at') := by rw [hT2]; unfold dlM; rw [hsome]
     rw [hpe] at hpp
     have hbn := a8j (q y) (p.toNat - 1) ha.hi ((rs.getD z []).getD (0 + Int.toNat (j : Int)) mg0) at' ha.wf ha.t ha.rl ha.ne ha.ok ha.og ha.st
     rw [show (((p.toNat - 1 : Nat) : Int) + 1) = p by omega] at hbn
     clear hAj hT2 hsome ha hpe hk
     subst e
     have hy2 : y < 2 := by omega
     rcases c6r hy2 with rfl | rfl
     ·(repeat' (first
  | refine SP ?_
  | (apply a0g <;> intro hb <;> (try simp only [nS, nT, eq_self, reduceCtorEq] at hb) <;> (try (exfalso; omega)))
  | refine a0u (by decide +kernel) ?_
  | refine a0l ?_
  | refine OB ?_
  | ((first | apply a1y (hpp) ); (focus (iterate 2 (all_goals (repeat' (first | exact a0c | exact trivial | refine SP ?_ | refine And.intro ?_ ?_ | refine a0b ?_ ?_ | refine a0o ?_ | exact a0i rfl rfl rfl | exact a0a _ _ | exact a0f rfl rfl rfl ))))); (try (any_goals fail)))
  | ((first | apply a0s [some 3] (hbn)); (focus ((iterate 2 (all_goals (repeat' (first | exact a0e rfl | exact a0c | exact trivial | refine SP ?_ | refine And.intro ?_ ?_ | refine a0b ?_ ?_ | refine a0o ?_ | exact a0d rfl rfl | exact a0a _ _ )))))); (any_goals (first | (apply a0v; rfl) )))
  | (apply a0m (Subtype.mk (j + 1) (by first | omega | (simp only; omega))); (focus (rw [hq']; apply a0t [some 0, some 1, some 2, some 3, some 4, some 5, some 6, some 7]; (focus (iterate 2 (all_goals (repeat' (first | exact a0e rfl | exact a2y ⟨⟨_, rfl, rfl⟩, ⟨_, rfl, rfl⟩⟩ | exact a0z rfl rfl rfl | exact a1u rfl rfl | exact a0c | exact trivial | refine SP ?_ | refine And.intro ?_ ?_ | refine a0b ?_ ?_ | refine a0n ?_ | exact a0d rfl rfl | exact a0i rfl rfl rfl | exact a0a _ _ | exact a0f rfl rfl rfl | ((refine a0r ?_); first | with_reducible rfl | omega | ((try simp only [wS]); omega) | rfl) ))))); any_goals (apply a0h; rfl))); (all_goals (try (first | (simp only; omega)))))
  ))
     ·(repeat' (first
  | refine SP ?_
  | (apply a0g <;> intro hb <;> (try simp only [nS, nT, eq_self, reduceCtorEq] at hb) <;> (try (exfalso; omega)))
  | refine a0u (by decide +kernel) ?_
  | refine a0l ?_
  | refine OB ?_
  | ((first | apply a1y (hpp) ); (focus (iterate 2 (all_goals (repeat' (first | exact a0c | exact trivial | refine SP ?_ | refine And.intro ?_ ?_ | refine a0b ?_ ?_ | refine a0o ?_ | exact a0i rfl rfl rfl | exact a0a _ _ | exact a0f rfl rfl rfl ))))); (try (any_goals fail)))
  | ((first | apply a0s [some 4] (hbn)); (focus ((iterate 2 (all_goals (repeat' (first | exact a0e rfl | exact a0c | exact trivial | refine SP ?_ | refine And.intro ?_ ?_ | refine a0b ?_ ?_ | refine a0o ?_ | exact a0d rfl rfl | exact a0a _ _ )))))); (any_goals (first | (apply a0v; rfl) )))
  | (apply a0m (Subtype.mk (j + 1) (by first | omega | (simp only; omega))); (focus (rw [hq']; apply a0t [some 0, some 1, some 2, some 3, some 4, some 5, some 6, some 7]; (focus (iterate 2 (all_goals (repeat' (first | exact a0e rfl | exact a2y ⟨⟨_, rfl, rfl⟩, ⟨_, rfl, rfl⟩⟩ | exact a0z rfl rfl rfl | exact a1u rfl rfl | exact a0c | exact trivial | refine SP ?_ | refine And.intro ?_ ?_ | refine a0b ?_ ?_ | refine a0n ?_ | exact a0d rfl rfl | exact a0i rfl rfl rfl | exact a0a _ _ | exact a0f rfl rfl rfl | ((refine a0r ?_); first | with_reducible rfl | omega | ((try simp only [wS]); omega) | rfl) ))))); any_goals (apply a0h; rfl))); (all_goals (try (first | (simp only; omega)))))
  ))
   ·obtain rfl : j = W.length := by omega
    rw [List.take_length, <- hTz]
    (repeat' (first
  | refine SP ?_
  | (apply a0g <;> intro hb <;> (try simp only [nS, nT, eq_self, reduceCtorEq] at hb) <;> (try (exfalso; omega)))
  | (apply a0m (Subtype.mk (z + 1) (by first | omega | (simp only; omega))); (focus (rw [hTz1]; apply a0t [some 0, some 1, some 2, some 3, some 4, some 5, some 6]; (focus (iterate 2 (all_goals (repeat' (first | exact a0e rfl | exact a2y ⟨⟨_, rfl, rfl⟩, ⟨_, rfl, rfl⟩⟩ | exact a0z rfl rfl rfl | exact a0c | exact trivial | refine SP ?_ | refine And.intro ?_ ?_ | refine a0b ?_ ?_ | refine a0n ?_ | exact a0d rfl rfl | exact a0i rfl rfl rfl | exact a0a _ _ | exact a0f rfl rfl rfl | ((refine a0r ?_); first | with_reducible rfl | omega | ((try simp only [wS]); omega) | rfl) ))))); any_goals (apply a0h; rfl))); (all_goals (try (first | (simp only; omega)))))
  ))
  ·obtain rfl : z = 2 := by omega
   have e : a4y (a08 ns l) S at' = dlL (a08 ns l) at' (flP S at' 2) (fun j => a1v (a07 (S j) at')) := by unfold a4y; rw [show (a08 ns l).n = 2 from hn]
   rw [e]
   (repeat' (first
  | refine SP ?_
  | (apply a0g <;> intro hb <;> (try simp only [nS, nT, eq_self, reduceCtorEq] at hb) <;> (try (exfalso; omega)))
  | (apply a04 [some 0, some 1, some 2, some 3, some 4]; (focus (iterate 2 (all_goals (repeat' (first | exact a0e rfl | exact a2y ⟨⟨_, rfl, rfl⟩, ⟨_, rfl, rfl⟩⟩ | exact trivial | refine SP ?_ | refine And.intro ?_ ?_ | exact a0a _ _ | exact a0f rfl rfl rfl ))))); any_goals (apply a0h; rfl))
  ))
end Go.Vx.L42.B
set_option maxRecDepth 100000
namespace Go.Vx.L42.B
open Go Go.Proofs Go.Vx.L42
abbrev c9r (b : Nat) : Blk := .arr true 40 1 2 fun i _ => .ptr (b + i) 24 0 0
theorem a6d {ρ : Nat -> Option Nat} {b : Nat} {c' : Nat -> Nat -> AV} (h : (∃ y, ρ (b + 0) = some y /\ c' 0 0 = .ptr y 24 0 0) /\ (∃ y, ρ (b + 1) = some y /\ c' 1 0 = .ptr y 24 0 0)) : a3n ρ (c9r b) (.arr true 40 1 2 c') := by
 refine a1w (a39 rfl) rfl fun i hi j hj => ?_
 obtain rfl : j = 0 := by omega
 obtain ⟨h0, h1⟩ := h
 rcases c6r hi with rfl | rfl
 ·obtain ⟨y, e1, e2⟩ := h0; rw [e2]; exact a0d e1 rfl
 ·obtain ⟨y, e1, e2⟩ := h1; rw [e2]; exact a0d e1 rfl
set_option maxHeartbeats 16000000 in
theorem c9f (l : List Ed) (cap : Option Nat) (hl : l.length <= maxLen) (hl20 : l.length <= 20) (ns : List Nd) (cap' : Option Nat) (hn : ns.length = 2) (hQ : NQ ns l) (hb0 : ∀ x, x < ns.length -> b67 (ns.getD x nd0) = false) :
  Runs Tryd.prog 3 [aN ns.length l cap ns cap'] [gB l, ndB ns] (Det (.sb true) [gB l, ndB ns]) := by
 have hmx : maxLen = 9223372036854775807 := by decide
 have hcz := hQ.ok.ck
 have hck := a38 ns.length l cap hl ns cap' (by omega)
 have hex := (a2u ns.length l cap hl ns cap' (by omega) hQ.ok.wf).2 hcz
 have hEl := a5z ns l ns.length
 rw [hcz] at hck
 have hw0 := a2f (ns.getD 0 nd0) (a3d hQ (x := 0) (by omega))
 have hw1 := a2f (ns.getD 1 nd0) (a3d hQ (x := 1) (by omega))
 refine Runs.mk a1a Tryd.call3 Tryd.func3 rfl Tryd.ntmps3 Tryd.results3 rfl ?_
 (repeat' (first
  | refine SP ?_
  | (apply a0g <;> intro hb <;> (try simp only [nS, nT, eq_self, reduceCtorEq] at hb) <;> (try (exfalso; omega)))
  | refine a0l ?_
  ))
 refine a00 (σ := Nat) (fun x => x <= ns.length) (fun x => ⟨[(1, .ptr 2 3 0 0), (26, .sl 1 6 0 ns.length cap'), (27, .val (.int .i64 ns.length)), (28, .val (.int .i64 x))], [gB l, ndB ns, .var [.val (.int .i64 ns.length), .sl 0 4 0 l.length cap, .sl 1 6 0 ns.length cap']]⟩) (fun x => ns.length - x) (0) ?_ ?_ ?_
 ·omega
 ·(apply a0t [some 0, some 1, some 2]; (focus (iterate 2 (all_goals (repeat' (first | exact a0c | exact trivial | refine SP ?_ | refine And.intro ?_ ?_ | refine a0b ?_ ?_ | refine a0n ?_ | exact a0d rfl rfl | exact a0i rfl rfl rfl | exact a0a _ _ | exact a0f rfl rfl rfl ))))); any_goals (apply a0h; rfl))
 rintro x hx
 by_cases hxl : x < ns.length
 ·have hz : 0 + Int.toNat (x : Int) = x := by omega
  have hq := of_decide_eq_false (hb0 x hxl)
  rw [<- hz] at hq
  clear hck hex hb0 hQ hcz hw0 hw1
  (repeat' (first
  | refine SP ?_
  | (apply a0g <;> intro hb <;> (try simp only [nS, nT, eq_self, reduceCtorEq] at hb) <;> (try (exfalso; omega)))
  | refine a0l ?_
  | refine OB ?_
  | (apply a0m (Subtype.mk (x + 1) _); (focus (apply a0t [some 0, some 1, some 2]; (focus (iterate 2 (all_goals (repeat' (first | exact a0c | exact trivial | refine SP ?_ | refine And.intro ?_ ?_ | refine a0b ?_ ?_ | refine a0n ?_ | exact a0d rfl rfl | exact a0i rfl rfl rfl | exact a0a _ _ | exact a0f rfl rfl rfl | ((refine a0r ?_); first | with_reducible rfl | omega | ((try simp only [wS]); omega) | rfl) ))))); any_goals (apply a0h; rfl))); (all_goals (try (first | omega | (simp only; omega)))))
  ))
 ·obtain rfl : x = ns.length := by omega
  (repeat' (first
  | refine SP ?_
  | (apply a0g <;> intro hb <;> (try simp only [nS, nT, eq_self, reduceCtorEq] at hb) <;> (try (exfalso; omega)))
  | refine a0l ?_
  | ((first | apply a0j [some 0, some 1] (hex) ); (focus ((iterate 2 (all_goals (repeat' (first | exact a0c | exact trivial | refine SP ?_ | refine And.intro ?_ ?_ | refine a0b ?_ ?_ | refine a0o ?_ | exact a0i rfl rfl rfl | exact a0a _ _ | exact a0f rfl rfl rfl )))))); any_goals (apply a0k; rfl))
  | ((first | apply a0j [some 0, some 1] (hck) ); (focus ((iterate 2 (all_goals (repeat' (first | exact a0c | exact trivial | refine SP ?_ | refine And.intro ?_ ?_ | refine a0b ?_ ?_ | refine a0o ?_ | exact a0i rfl rfl rfl | exact a0a _ _ | exact a0f rfl rfl rfl )))))); any_goals (apply a0k; rfl))
  ))
  refine a2m 3 ?_
  (repeat' (first
  | refine SP ?_
  | (with_reducible refine a1k ?_)
  | (apply a0g <;> intro hb <;> (try simp only [nS, nT, eq_self, reduceCtorEq] at hb) <;> (try (exfalso; (first | omega | (simp only [IntKind.wrap_i64] at hb; omega)); done)))
  | refine a0l ?_
  | refine OB ?_
  | ((first | apply a0j [] (hw0) ); (focus ((iterate 2 (all_goals (repeat' (first | exact a0c | exact trivial | refine And.intro ?_ ?_ | refine a0b ?_ ?_ | refine a0o ?_ | exact a0a _ _ | refine a0r ?_ )))); done)); any_goals (apply a0k; rfl))
  | ((first | apply a0j [] (hw1) ); (focus ((iterate 2 (all_goals (repeat' (first | exact a0c | exact trivial | refine And.intro ?_ ?_ | refine a0b ?_ ?_ | refine a0o ?_ | exact a0a _ _ )))); done)); any_goals (apply a0k; rfl))
  ))
  refine a00 (σ := Nat) (fun x => x <= 30) (fun x => ⟨[(1, .ptr 2 3 0 0), (5, .sl 3 2 0 ns.length none), (7, .sl 4 1 0 2 none), (11, .val (.int .i64 (atK x)))], [gB l, ndB ns, .var [.val (.int .i64 ns.length), .sl 0 4 0 l.length cap, .sl 1 6 0 ns.length cap'], chB true (exL ns l ns.length), c9r 5, .obj (a1h (stS ns l x 0)), .obj (a1h (stS ns l x 1))]⟩) (fun x => 30 - x) (0) ?_ ?_ ?_
  ·omega
  ·(apply a0t [some 0, some 1, some 2, some 3, some 11, some 5, some 9]; (focus (iterate 2 (all_goals (repeat' (first | exact a0e rfl | exact a6d ⟨⟨_, rfl, rfl⟩, ⟨_, rfl, rfl⟩⟩ | exact a0c | exact trivial | refine SP ?_ | refine And.intro ?_ ?_ | refine a0b ?_ ?_ | refine a0n ?_ | exact a0d rfl rfl | exact a0i rfl rfl rfl | exact a0a _ _ | exact a0f rfl rfl rfl | exact a06 rfl rfl rfl ))))); any_goals (apply a0h; rfl))
  rintro k hk
  have hat := a2w k
  have hat1 := a2w (k + 1)
  by_cases hkl : k < 30
  ·have hS := a69 hQ k hk
   have hr := b7d ns l cap cap' hl (stS ns l k) (atK k) hn hQ.ok (fun j hj => b1i hQ (by omega) hS (by omega)) (fun j hj => b7w hQ (by omega) hS (by omega)) (fun i x y q hi hx hp => b7x hQ (by omega) hS i x y q (by omega) hx hp)
   have hs1 := a6q (ns := ns) (l := l) k
   clear hck hex hb0 hQ hcz hS hw0 hw1
   generalize hq1 : stS ns l (k + 1) = S1 at *
   generalize a4y (a08 ns l) (stS ns l k) (atK k) = S2 at *
   generalize stS ns l k = S at *
   (repeat' (first
  | refine SP ?_
  | (apply a0g <;> intro hb <;> (try simp only [nS, nT, eq_self, reduceCtorEq] at hb) <;> (try (exfalso; omega)))
  | refine a0l ?_
  | ((first | apply a0j [some 0, some 1, some 4, some 5, some 6] (hr) ); (focus ((iterate 2 (all_goals (repeat' (first | exact a0e rfl | exact a2y ⟨⟨_, rfl, rfl⟩, ⟨_, rfl, rfl⟩⟩ | exact a0c | exact trivial | refine SP ?_ | refine And.intro ?_ ?_ | refine a0b ?_ ?_ | refine a0o ?_ | exact a0i rfl rfl rfl | exact a0a _ _ | exact a0f rfl rfl rfl )))))); any_goals (apply a0k; rfl))
  | (apply a0m (Subtype.mk (k + 1) (by first | omega | (simp only; omega))); (focus (rw [hq1, hs1]; apply a0t [some 0, some 1, some 2, some 3, some 4, some 5, some 6]; (focus (iterate 2 (all_goals (repeat' (first | exact a0e rfl | exact a6d ⟨⟨_, rfl, rfl⟩, ⟨_, rfl, rfl⟩⟩ | exact a0c | exact trivial | refine SP ?_ | refine And.intro ?_ ?_ | refine a0b ?_ ?_ | refine a0n ?_ | exact a0d rfl rfl | exact a0i rfl rfl rfl | exact a0a _ _ | exact a0f rfl rfl rfl | ((refine a0r ?_); first | with_reducible rfl | omega | ((try simp only [wS]); omega) | rfl) ))))); any_goals (apply a0h; rfl))); (all_goals (try (first | (simp only; omega)))))
  ))
  ·obtain rfl : k = 30 := by omega
   have hE := fun i (hi : i < ns.length) => b1s hQ (by omega) hi
   clear hck hex hb0 hQ hcz hw0 hw1
   generalize stS ns l 30 = S at *
   generalize exL ns l ns.length = E at *
   (repeat' (first
  | refine SP ?_
  | (apply a0g <;> intro hb <;> (try simp only [nS, nT, eq_self, reduceCtorEq] at hb) <;> (try (exfalso; omega)))
  | refine a0l ?_
  ))
   refine a00 (σ := Nat) (fun x => x <= 2) (fun x => ⟨[(1, .ptr 2 3 0 0), (5, .sl 3 2 0 ns.length none), (7, .sl 4 1 0 2 none), (96, .sl 4 1 0 2 none), (97, .val (.int .i64 2)), (98, .val (.int .i64 x))], [gB l, ndB ns, .var [.val (.int .i64 ns.length), .sl 0 4 0 l.length cap, .sl 1 6 0 ns.length cap'], chB true E, c9r 5, .obj (a1h (S 0)), .obj (a1h (S 1))]⟩) (fun x => 2 - x) (0) ?_ ?_ ?_
   ·omega
   ·(apply a0t [some 0, some 1, some 2, some 3, some 4, some 5, some 6]; (focus (iterate 2 (all_goals (repeat' (first | exact a0e rfl | exact a6d ⟨⟨_, rfl, rfl⟩, ⟨_, rfl, rfl⟩⟩ | exact a0c | exact trivial | refine SP ?_ | refine And.intro ?_ ?_ | refine a0b ?_ ?_ | refine a0n ?_ | exact a0d rfl rfl | exact a0i rfl rfl rfl | exact a0a _ _ | exact a0f rfl rfl rfl ))))); any_goals (apply a0h; rfl))
   rintro i hi
   by_cases hil : i < 2
   ·have hz : 0 + Int.toNat (i : Int) = i := by omega
    obtain ⟨e1, e2, e3, e4⟩ := hE i (by omega)
    rw [<- Nat.zero_add ((E.getD i ch0).m).toNat] at e2
    rw [show E.getD i ch0 = E.getD (0 + Int.toNat (i : Int)) ch0 by rw [hz]] at e1 e2 e3 e4
    have hp := a5d (S i)
    clear hE
    rcases c6r hil with rfl | rfl
    ·(repeat' (first
  | refine SP ?_
  | (apply a0g <;> intro hb <;> (try simp only [nS, nT, eq_self, reduceCtorEq] at hb) <;> (try (exfalso; (first | omega | (simp only [IntKind.wrap_i64] at hb; omega)); done)))
  | refine a0u (by decide +kernel) ?_
  | refine a0l ?_
  | refine OB ?_
  | ((first | apply a0s [some 5] (hp)); (focus ((iterate 2 (all_goals (repeat' (first | exact a0e rfl | exact a0c | exact trivial | refine SP ?_ | refine And.intro ?_ ?_ | refine a0b ?_ ?_ | exact a0d rfl rfl )))))); (any_goals (first | (apply a0v; rfl) )))
  | (apply a0m (Subtype.mk (0 + 1) _); (focus (apply a0t [some 0, some 1, some 2, some 3, some 4, some 5, some 6]; (focus (iterate 2 (all_goals (repeat' (first | exact a0e rfl | exact a6d ⟨⟨_, rfl, rfl⟩, ⟨_, rfl, rfl⟩⟩ | exact a0c | exact trivial | refine SP ?_ | refine And.intro ?_ ?_ | refine a0b ?_ ?_ | refine a0n ?_ | exact a0d rfl rfl | exact a0i rfl rfl rfl | exact a0a _ _ | exact a0f rfl rfl rfl ))))); any_goals (apply a0h; rfl))); (all_goals (try (first | omega | (simp only; omega)))))
  ))
    ·(repeat' (first
  | refine SP ?_
  | (apply a0g <;> intro hb <;> (try simp only [nS, nT, eq_self, reduceCtorEq] at hb) <;> (try (exfalso; (first | omega | (simp only [IntKind.wrap_i64] at hb; omega)); done)))
  | refine a0u (by decide +kernel) ?_
  | refine a0l ?_
  | refine OB ?_
  | ((first | apply a0s [some 6] (hp)); (focus ((iterate 2 (all_goals (repeat' (first | exact a0e rfl | exact a0c | exact trivial | refine SP ?_ | refine And.intro ?_ ?_ | refine a0b ?_ ?_ | exact a0d rfl rfl )))))); (any_goals (first | (apply a0v; rfl) )))
  | (apply a0m (Subtype.mk (1 + 1) _); (focus (apply a0t [some 0, some 1, some 2, some 3, some 4, some 5, some 6]; (focus (iterate 2 (all_goals (repeat' (first | exact a0e rfl | exact a6d ⟨⟨_, rfl, rfl⟩, ⟨_, rfl, rfl⟩⟩ | exact a0c | exact trivial | refine SP ?_ | refine And.intro ?_ ?_ | refine a0b ?_ ?_ | refine a0n ?_ | exact a0d rfl rfl | exact a0i rfl rfl rfl | exact a0a _ _ | exact a0f rfl rfl rfl ))))); any_goals (apply a0h; rfl))); (all_goals (try (first | omega | (simp only; omega)))))
  ))
   ·obtain rfl : i = 2 := by omega
    (repeat' (first
  | refine SP ?_
  | (apply a0g <;> intro hb <;> (try simp only [nS, nT, eq_self, reduceCtorEq] at hb) <;> (try (exfalso; omega)))
  | (apply a04 [some 0, some 1]; (focus (iterate 2 (all_goals (repeat' (first | exact trivial | refine SP ?_ | refine And.intro ?_ ?_ | exact a1j rfl | exact a0f rfl rfl rfl ))))); any_goals (apply a0h; rfl))
  ))
end Go.Vx.L42.B
set_option maxRecDepth 100000
namespace Go.Vx.L42.B
open Go Go.Proofs Go.Vx.L42
theorem c6q {x : Nat} (h : x < 3) : x = 0 \/ x = 1 \/ x = 2 := by omega
theorem a2g {ρ : Nat -> Option Nat} {c' : Nat -> Nat -> AV} (h : (∃ y, ρ 3 = some y /\ c' 0 0 = .ptr y 24 0 0) /\ (∃ y, ρ 4 = some y /\ c' 1 0 = .ptr y 24 0 0) /\ (∃ y, ρ 5 = some y /\ c' 2 0 = .ptr y 24 0 0)) : a3n ρ (clB 3) (.arr true 40 1 3 c') := by
 refine a1w (a39 rfl) rfl fun i hi j hj => ?_
 obtain rfl : j = 0 := by omega
 obtain ⟨h0, h1, h2⟩ := h
 rcases c6q hi with rfl | rfl | rfl
 ·obtain ⟨y, e1, e2⟩ := h0; rw [e2]; exact a0d e1 rfl
 ·obtain ⟨y, e1, e2⟩ := h1; rw [e2]; exact a0d e1 rfl
 ·obtain ⟨y, e1, e2⟩ := h2; rw [e2]; exact a0d e1 rfl
set_option maxHeartbeats 16000000 in
theorem b66 (ns : List Nd) (l : List Ed) (cap cap' : Option Nat) (hl : l.length <= maxLen) (S : Nat -> CS) (at' : Int) (hn : ns.length = 3) (hN : NOK ns l)
  (hD : ∀ j, j < 3 -> wfC (S j) at') (hS : ∀ j, j < 3 -> 0 <= (a07 (S j) at').fol.st /\ (a07 (S j) at').fol.st <= 30)
  (hA : ∀ i x y q, i < 3 -> x < (a16 (a07 (S i) at') 8).length -> (a08 ns l).pe i ((a16 (a07 (S i) at') 8).getD x mg0).port.toNat = some (y, q) ->
   AnnOK (dlL (a08 ns l) at' (((a16 (a07 (S i) at') 8).take x).map (Prod.mk i)) (dlL (a08 ns l) at' (flP S at' i) (fun j => a1v (a07 (S j) at'))) y) (q - 1) ((a16 (a07 (S i) at') 8).getD x mg0) at') :
  Runs Tryd.prog 12 [aN ns.length l cap ns cap', .sl 2 1 0 3 none, .val (.int .i64 at')] [gB l, ndB ns, clB 3, .obj (a1h (S 0)), .obj (a1h (S 1)), .obj (a1h (S 2))]
   (Det (.val (.bool true)) [gB l, ndB ns, clB 3, .obj (a1h (a4y (a08 ns l) S at' 0)), .obj (a1h (a4y (a08 ns l) S at' 1)), .obj (a1h (a4y (a08 ns l) S at' 2))]) := by
 have hc := hN.parts.1
 have hrl := a6f S at'
 refine Runs.mk a1a Tryd.call12 Tryd.func12 rfl Tryd.ntmps12 Tryd.results12 rfl ?_
 (repeat' (first
  | refine SP ?_
  | refine a0l ?_
  ))
 refine a00 (σ := Nat) (fun x => x <= 3) (fun x => ⟨[(1, .sl 2 1 0 3 none), (2, .val (.int .i64 at')), (3, .ptr 6 3 0 0), (7, .sl 7 1 0 x none), (19, .sl 2 1 0 3 none), (20, .val (.int .i64 3)), (21, .val (.int .i64 x))], [gB l, ndB ns, clB 3, .obj (a1h (bif Nat.blt 0 x then a1v (a07 (S 0) at') else S 0)), .obj (a1h (bif Nat.blt 1 x then a1v (a07 (S 1) at') else S 1)), .obj (a1h (bif Nat.blt 2 x then a1v (a07 (S 2) at') else S 2)), .var [.val (.int .i64 ns.length), .sl 0 4 0 l.length cap, .sl 1 6 0 ns.length cap'], .fam true 95 104 22 x (a3i mgC mg0 (rwP S at' x)) none 0]⟩) (fun x => 3 - x) (0) ?_ ?_ ?_
 ·omega
 ·(apply a0t [some 0, some 1, some 2, some 3, some 4, some 5, some 6, none]; (focus (iterate 2 (all_goals (repeat' (first | exact a0e rfl | exact a2g ⟨⟨_, rfl, rfl⟩, ⟨_, rfl, rfl⟩, ⟨_, rfl, rfl⟩⟩ | exact a0c | exact trivial | refine SP ?_ | refine And.intro ?_ ?_ | refine a0b ?_ ?_ | refine a0n ?_ | exact a0d rfl rfl | exact a0i rfl rfl rfl | exact a0a _ _ | exact a0f rfl rfl rfl | exact a3a rfl | ((first | show (_ : Nat) = _); first | with_reducible rfl | omega | ((try simp only [wS]); omega) | rfl) | with_reducible rfl ))))); any_goals (apply a0h; rfl))
 rintro x hx
 by_cases hxl : x < 3
 ·have hd := a4l (S x) at' (hD x hxl)
  have hs := a8v (a07 (S x) at') (hS x hxl) (fun i hi => (hD x hxl).an i hi)
  have hlx := hrl x
  have hsx : rwP S at' (x + 1) = rwP S at' x ++ [a16 (a07 (S x) at') 8] := rfl
  clear hD hS hA hrl
  generalize hW : a16 (a07 (S x) at') 8 = W at *
  generalize hq1 : rwP S at' (x + 1) = q1 at *
  generalize rwP S at' x = q at *
  rcases W with _ | ⟨w0, W⟩
  ·rw [List.length_nil] at hs
   rcases c6q hxl with rfl | rfl | rfl
   ·(repeat' (first
  | refine SP ?_
  | (apply a0g <;> intro hb <;> (try simp only [nS, nT, eq_self, reduceCtorEq] at hb) <;> (try (exfalso; omega)))
  | refine a0l ?_
  | refine OB ?_
  | ((first | apply a0j [some 3] (hd) ); (focus ((iterate 2 (all_goals (repeat' (first | exact a0e rfl | exact a0c | exact trivial | refine SP ?_ | refine And.intro ?_ ?_ | refine a0b ?_ ?_ | exact a0d rfl rfl | exact a0a _ _ )))))); any_goals (apply a0k; rfl))
  | ((first | apply a0j [some 3] (hs) ); (focus ((iterate 2 (all_goals (repeat' (first | exact a0e rfl | exact a0c | exact trivial | refine SP ?_ | refine And.intro ?_ ?_ | refine a0b ?_ ?_ | exact a0d rfl rfl )))))); any_goals (apply a0k; rfl))
  | (apply a0m (Subtype.mk (0 + 1) (by first | omega | (simp only; omega))); (focus (rw [hq1, hsx]; apply a0t [some 0, some 1, some 2, some 3, some 4, some 5, some 6, some _]; (focus (iterate 2 (all_goals (repeat' (first | exact a0e rfl | exact a2g ⟨⟨_, rfl, rfl⟩, ⟨_, rfl, rfl⟩, ⟨_, rfl, rfl⟩⟩ | exact a0c | exact trivial | refine SP ?_ | refine And.intro ?_ ?_ | refine a0b ?_ ?_ | refine a0n ?_ | exact a0d rfl rfl | exact a0i rfl rfl rfl | exact a0a _ _ | exact a0f rfl rfl rfl ))))); any_goals (apply a0h; rfl))); (all_goals (try (first | (simp only; omega)))))
  ))
    all_goals first
     | exact a1e (l := []) (a06 rfl rfl rfl) rfl rfl hlx.symm rfl rfl
     | fail
   ·(repeat' (first
  | refine SP ?_
  | (apply a0g <;> intro hb <;> (try simp only [nS, nT, eq_self, reduceCtorEq] at hb) <;> (try (exfalso; omega)))
  | refine a0l ?_
  | refine OB ?_
  | ((first | apply a0j [some 4] (hd) ); (focus ((iterate 2 (all_goals (repeat' (first | exact a0e rfl | exact a0c | exact trivial | refine SP ?_ | refine And.intro ?_ ?_ | refine a0b ?_ ?_ | exact a0d rfl rfl | exact a0a _ _ )))))); any_goals (apply a0k; rfl))
  | ((first | apply a0j [some 4] (hs) ); (focus ((iterate 2 (all_goals (repeat' (first | exact a0e rfl | exact a0c | exact trivial | refine SP ?_ | refine And.intro ?_ ?_ | refine a0b ?_ ?_ | exact a0d rfl rfl )))))); any_goals (apply a0k; rfl))
  | (apply a0m (Subtype.mk (1 + 1) (by first | omega | (simp only; omega))); (focus (rw [hq1, hsx]; apply a0t [some 0, some 1, some 2, some 3, some 4, some 5, some 6, some _]; (focus (iterate 2 (all_goals (repeat' (first | exact a0e rfl | exact a2g ⟨⟨_, rfl, rfl⟩, ⟨_, rfl, rfl⟩, ⟨_, rfl, rfl⟩⟩ | exact a0c | exact trivial | refine SP ?_ | refine And.intro ?_ ?_ | refine a0b ?_ ?_ | refine a0n ?_ | exact a0d rfl rfl | exact a0i rfl rfl rfl | exact a0a _ _ | exact a0f rfl rfl rfl ))))); any_goals (apply a0h; rfl))); (all_goals (try (first | (simp only; omega)))))
  ))
    all_goals first
     | exact a1e (l := []) (a06 rfl rfl rfl) rfl rfl hlx.symm rfl rfl
     | fail
   ·(repeat' (first
  | refine SP ?_
  | (apply a0g <;> intro hb <;> (try simp only [nS, nT, eq_self, reduceCtorEq] at hb) <;> (try (exfalso; omega)))
  | refine a0l ?_
  | refine OB ?_
  | ((first | apply a0j [some 5] (hd) ); (focus ((iterate 2 (all_goals (repeat' (first | exact a0e rfl | exact a0c | exact trivial | refine SP ?_ | refine And.intro ?_ ?_ | refine a0b ?_ ?_ | exact a0d rfl rfl | exact a0a _ _ )))))); any_goals (apply a0k; rfl))
  | ((first | apply a0j [some 5] (hs) ); (focus ((iterate 2 (all_goals (repeat' (first | exact a0e rfl | exact a0c | exact trivial | refine SP ?_ | refine And.intro ?_ ?_ | refine a0b ?_ ?_ | exact a0d rfl rfl )))))); any_goals (apply a0k; rfl))
  | (apply a0m (Subtype.mk (2 + 1) (by first | omega | (simp only; omega))); (focus (rw [hq1, hsx]; apply a0t [some 0, some 1, some 2, some 3, some 4, some 5, some 6, some _]; (focus (iterate 2 (all_goals (repeat' (first | exact a0e rfl | exact a2g ⟨⟨_, rfl, rfl⟩, ⟨_, rfl, rfl⟩, ⟨_, rfl, rfl⟩⟩ | exact a0c | exact trivial | refine SP ?_ | refine And.intro ?_ ?_ | refine a0b ?_ ?_ | refine a0n ?_ | exact a0d rfl rfl | exact a0i rfl rfl rfl | exact a0a _ _ | exact a0f rfl rfl rfl ))))); any_goals (apply a0h; rfl))); (all_goals (try (first | (simp only; omega)))))
  ))
    all_goals first
     | exact a1e (l := []) (a06 rfl rfl rfl) rfl rfl hlx.symm rfl rfl
     | fail
  ·generalize hWW : (w0 :: W) = WW at *
   have hWl : WW.length = W.length + 1 := by rw [<- hWW]; rfl
   rw [hWl] at hs
   generalize hRR : q ++ [WW] = RR at *
   rcases c6q hxl with rfl | rfl | rfl
   ·(repeat' (first
  | refine SP ?_
  | (apply a0g <;> intro hb <;> (try simp only [nS, nT, eq_self, reduceCtorEq] at hb) <;> (try (exfalso; omega)))
  | refine a0l ?_
  | refine OB ?_
  | ((first | apply a0j [some 3] (hd) ); (focus ((iterate 2 (all_goals (repeat' (first | exact a0e rfl | exact a0c | exact trivial | refine SP ?_ | refine And.intro ?_ ?_ | refine a0b ?_ ?_ | exact a0d rfl rfl | exact a0a _ _ )))))); any_goals (apply a0k; rfl))
  | ((first | apply a0j [some 3] (hs) ); (focus ((iterate 2 (all_goals (repeat' (first | exact a0e rfl | exact a0c | exact trivial | refine SP ?_ | refine And.intro ?_ ?_ | refine a0b ?_ ?_ | exact a0d rfl rfl )))))); any_goals (apply a0k; rfl))
  | (apply a0m (Subtype.mk (0 + 1) (by first | omega | (simp only; omega))); (focus (rw [hq1, hsx]; apply a0t [some 0, some 1, some 2, some 3, some 4, some 5, some 6, some _]; (focus (iterate 2 (all_goals (repeat' (first | exact a0e rfl | exact a2g ⟨⟨_, rfl, rfl⟩, ⟨_, rfl, rfl⟩, ⟨_, rfl, rfl⟩⟩ | exact a0c | exact trivial | refine SP ?_ | refine And.intro ?_ ?_ | refine a0b ?_ ?_ | refine a0n ?_ | exact a0d rfl rfl | exact a0i rfl rfl rfl | exact a0a _ _ | exact a0f rfl rfl rfl ))))); any_goals (apply a0h; rfl))); (all_goals (try (first | (simp only; omega)))))
  ))
    all_goals first
     | (rw [<- hRR]; refine a1e (l := WW) (a06 rfl ?_ rfl) ?_ rfl hlx.symm rfl rfl <;> omega)
     | fail
   ·(repeat' (first
  | refine SP ?_
  | (apply a0g <;> intro hb <;> (try simp only [nS, nT, eq_self, reduceCtorEq] at hb) <;> (try (exfalso; omega)))
  | refine a0l ?_
  | refine OB ?_
  | ((first | apply a0j [some 4] (hd) ); (focus ((iterate 2 (all_goals (repeat' (first | exact a0e rfl | exact a0c | exact trivial | refine SP ?_ | refine And.intro ?_ ?_ | refine a0b ?_ ?_ | exact a0d rfl rfl | exact a0a _ _ )))))); any_goals (apply a0k; rfl))
  | ((first | apply a0j [some 4] (hs) ); (focus ((iterate 2 (all_goals (repeat' (first | exact a0e rfl | exact a0c | exact trivial | refine SP ?_ | refine And.intro ?_ ?_ | refine a0b ?_ ?_ | exact a0d rfl rfl )))))); any_goals (apply a0k; rfl))
  | (apply a0m (Subtype.mk (1 + 1) (by first | omega | (simp only; omega))); (focus (rw [hq1, hsx]; apply a0t [some 0, some 1, some 2, some 3, some 4, some 5, some 6, some _]; (focus (iterate 2 (all_goals (repeat' (first | exact a0e rfl | exact a2g ⟨⟨_, rfl, rfl⟩, ⟨_, rfl, rfl⟩, ⟨_, rfl, rfl⟩⟩ | exact a0c | exact trivial | refine SP ?_ | refine And.intro ?_ ?_ | refine a0b ?_ ?_ | refine a0n ?_ | exact a0d rfl rfl | exact a0i rfl rfl rfl | exact a0a _ _ | exact a0f rfl rfl rfl ))))); any_goals (apply a0h; rfl))); (all_goals (try (first | (simp only; omega)))))
  ))
    all_goals first
     | (rw [<- hRR]; refine a1e (l := WW) (a06 rfl ?_ rfl) ?_ rfl hlx.symm rfl rfl <;> omega)
     | fail
   ·(repeat' (first
  | refine SP ?_
  | (apply a0g <;> intro hb <;> (try simp only [nS, nT, eq_self, reduceCtorEq] at hb) <;> (try (exfalso; omega)))
  | refine a0l ?_
  | refine OB ?_
  | ((first | apply a0j [some 5] (hd) ); (focus ((iterate 2 (all_goals (repeat' (first | exact a0e rfl | exact a0c | exact trivial | refine SP ?_ | refine And.intro ?_ ?_ | refine a0b ?_ ?_ | exact a0d rfl rfl | exact a0a _ _ )))))); any_goals (apply a0k; rfl))
  | ((first | apply a0j [some 5] (hs) ); (focus ((iterate 2 (all_goals (repeat' (first | exact a0e rfl | exact a0c | exact trivial | refine SP ?_ | refine And.intro ?_ ?_ | refine a0b ?_ ?_ | exact a0d rfl rfl )))))); any_goals (apply a0k; rfl))
  | (apply a0m (Subtype.mk (2 + 1) (by first | omega | (simp only; omega))); (focus (rw [hq1, hsx]; apply a0t [some 0, some 1, some 2, some 3, some 4, some 5, some 6, some _]; (focus (iterate 2 (all_goals (repeat' (first | exact a0e rfl | exact a2g ⟨⟨_, rfl, rfl⟩, ⟨_, rfl, rfl⟩, ⟨_, rfl, rfl⟩⟩ | exact a0c | exact trivial | refine SP ?_ | refine And.intro ?_ ?_ | refine a0b ?_ ?_ | refine a0n ?_ | exact a0d rfl rfl | exact a0i rfl rfl rfl | exact a0a _ _ | exact a0f rfl rfl rfl ))))); any_goals (apply a0h; rfl))); (all_goals (try (first | (simp only; omega)))))
  ))
    all_goals first
     | (rw [<- hRR]; refine a1e (l := WW) (a06 rfl ?_ rfl) ?_ rfl hlx.symm rfl rfl <;> omega)
     | fail
 ·obtain rfl : x = 3 := by omega
  have hrn := hrl 3
  (repeat' (first
  | refine SP ?_
  | (apply a0g <;> intro hb <;> (try simp only [nS, nT, eq_self, reduceCtorEq] at hb) <;> (try (exfalso; omega)))
  | refine a0l ?_
  ))
  refine a00 (σ := Nat) (fun x => x <= 3) (fun x => ⟨[(1, .sl 2 1 0 3 none), (2, .val (.int .i64 at')), (3, .ptr 6 3 0 0), (39, .sl 7 1 0 3 none), (40, .val (.int .i64 3)), (41, .val (.int .i64 x))], [gB l, ndB ns, clB 3, .obj (a1h ((dlL (a08 ns l) at' (flP S at' x) (fun j => a1v (a07 (S j) at'))) 0)), .obj (a1h ((dlL (a08 ns l) at' (flP S at' x) (fun j => a1v (a07 (S j) at'))) 1)), .obj (a1h ((dlL (a08 ns l) at' (flP S at' x) (fun j => a1v (a07 (S j) at'))) 2)), .var [.val (.int .i64 ns.length), .sl 0 4 0 l.length cap, .sl 1 6 0 ns.length cap'], .fam true 95 104 22 3 (a3i mgC mg0 (rwP S at' 3)) none 0]⟩) (fun x => 3 - x) (0) ?_ ?_ ?_
  ·omega
  ·(apply a0t [some 0, some 1, some 2, some 3, some 4, some 5, some 6, some 7]; (focus (iterate 2 (all_goals (repeat' (first | exact a0e rfl | exact a2g ⟨⟨_, rfl, rfl⟩, ⟨_, rfl, rfl⟩, ⟨_, rfl, rfl⟩⟩ | exact a0z rfl rfl rfl | exact a0c | exact trivial | refine SP ?_ | refine And.intro ?_ ?_ | refine a0b ?_ ?_ | refine a0n ?_ | exact a0d rfl rfl | exact a0i rfl rfl rfl | exact a0a _ _ | exact a0f rfl rfl rfl ))))); any_goals (apply a0h; rfl))
  rintro z hz
  by_cases hzl : z < 3
  ·have hz0 : 0 + Int.toNat (z : Int) = z := by omega
   have hW : (rwP S at' 3).getD z [] = a16 (a07 (S z) at') 8 := a7a S at' 3 z hzl
   have hTz : dlL (a08 ns l) at' (flP S at' (z + 1)) (fun j => a1v (a07 (S j) at')) = dlL (a08 ns l) at' ((a16 (a07 (S z) at') 8).map (Prod.mk z)) (dlL (a08 ns l) at' (flP S at' z) (fun j => a1v (a07 (S j) at'))) := by
    show dlL _ _ (flP S at' z ++ _) _ = _
    rw [a6l]
   have hAz := fun x y q => hA z x y q hzl
   have hW8 := a42 (a07 (S z) at') 8
   have hPort := fun m (hm : m ∈ a16 (a07 (S z) at') 8) => a62 hm
   clear hD hS hA
   generalize hTz1 : dlL (a08 ns l) at' (flP S at' (z + 1)) (fun j => a1v (a07 (S j) at')) = T1 at *
   generalize dlL (a08 ns l) at' (flP S at' z) (fun j => a1v (a07 (S j) at')) = T at *
   generalize rwP S at' 3 = rs at *
   generalize a16 (a07 (S z) at') 8 = W at *
   have hW2 : (a3i mgC mg0 rs z).1 = W.length := by rw [a1z, hW]
   have hW3 : (a3i mgC mg0 rs (0 + Int.toNat (z : Int))).1 = W.length := by rw [hz0, a1z, hW]
   (repeat' (first
  | refine SP ?_
  | (apply a0g <;> intro hb <;> (try simp only [nS, nT, eq_self, reduceCtorEq] at hb) <;> (try (exfalso; omega)))
  | refine a0l ?_
  | refine OB ?_
  ))
   refine a00 (σ := Nat) (fun x => x <= W.length) (fun x => ⟨[(1, .sl 2 1 0 3 none), (2, .val (.int .i64 at')), (3, .ptr 6 3 0 0), (12, .val (.int .i64 z)), (39, .sl 7 1 0 3 none), (40, .val (.int .i64 3)), (41, .val (.int .i64 z)), (46, .sl 8 22 0 W.length none), (47, .val (.int .i64 W.length)), (48, .val (.int .i64 x))], [gB l, ndB ns, clB 3, .obj (a1h ((dlL (a08 ns l) at' ((W.take x).map (Prod.mk z)) T) 0)), .obj (a1h ((dlL (a08 ns l) at' ((W.take x).map (Prod.mk z)) T) 1)), .obj (a1h ((dlL (a08 ns l) at' ((W.take x).map (Prod.mk z)) T) 2)), .var [.val (.int .i64 ns.length), .sl 0 4 0 l.length cap, .sl 1 6 0 ns.length cap'], .fam true 95 104 22 3 (a3i mgC mg0 (rs)) none 0, .row 7 z]⟩) (fun x => W.length - x) (0) ?_ ?_ ?_
   ·omega
   ·(apply a0t [some 0, some 1, some 2, some 3, some 4, some 5, some 6, some 7, some 8]; (focus (iterate 2 (all_goals (repeat' (first | exact a0e rfl | exact a2g ⟨⟨_, rfl, rfl⟩, ⟨_, rfl, rfl⟩, ⟨_, rfl, rfl⟩⟩ | exact a0z rfl rfl rfl | (refine a1u rfl ?_) | exact a0c | exact trivial | refine SP ?_ | refine And.intro ?_ ?_ | refine a0b ?_ ?_ | refine a0n ?_ | exact a0d rfl rfl | exact a0i rfl rfl rfl | exact a0a _ _ | exact a0f rfl rfl rfl | ((first | refine a0r ?_ | refine a0i rfl rfl ?_ | show (_ : Nat) = _); first | with_reducible rfl | omega | ((try simp only [wS]); omega) | rfl) ))))); any_goals (apply a0h; rfl))
   rintro j hj
   by_cases hjW : j < W.length
   ·have hzj : 0 + Int.toNat (j : Int) = j := by omega
    have hPe : (rs.getD z []).getD (0 + Int.toNat (j : Int)) mg0 = W.getD j mg0 := by rw [hW, hzj]
    have hT2 : dlL (a08 ns l) at' ((W.take (j + 1)).map (Prod.mk z)) T = dlM (a08 ns l) at' (dlL (a08 ns l) at' ((W.take j).map (Prod.mk z)) T) (z, W.getD j mg0) := a8u _ _ _ _ _ _ hjW
    have hAj := fun y q => hAz j y q hjW
    have hpn := hPort _ (a4v W j hjW)
    have hpp := a7d ns.length l cap hl z (W.getD j mg0).port
    clear hAz hPort
    generalize hq' : dlL (a08 ns l) at' ((W.take (j + 1)).map (Prod.mk z)) T = q' at *
    generalize dlL (a08 ns l) at' ((W.take j).map (Prod.mk z)) T = q at *
    rw [<- hPe] at hT2 hAj hpn hpp
    cases hk : (a1r ns.length l z ((rs.getD z []).getD (0 + Int.toNat (j : Int)) mg0).port).2.2
    ·have hnone : (a08 ns l).pe z ((rs.getD z []).getD (0 + Int.toNat (j : Int)) mg0).port.toNat = none := by
      show (if (a1r ns.length l z (((rs.getD z []).getD (0 + Int.toNat (j : Int)) mg0).port.toNat : Nat)).2.2 = true then _ else _) = none
      rw [hpn, if_neg (by rw [hk]; simp)]
     have e : q' = q := by rw [hT2]; unfold dlM; rw [hnone]
     subst e
     have hh := hk
     clear hAj hT2 hnone
     (repeat' (first
  | refine SP ?_
  | (apply a0g <;> intro hb <;> (try simp only [nS, nT, eq_self, reduceCtorEq] at hb) <;> (try (exfalso; (first | omega | (rw [hh] at hb; cases hb)); done)))
  | refine a0l ?_
  | refine OB ?_
  | ((first | apply a1y (hpp) ); (focus (iterate 2 (all_goals (repeat' (first | exact a0c | exact trivial | refine SP ?_ | refine And.intro ?_ ?_ | refine a0b ?_ ?_ | refine a0o ?_ | exact a0i rfl rfl rfl | exact a0a _ _ | exact a0f rfl rfl rfl ))))); (try (any_goals fail)))
  | (apply a0m (Subtype.mk (j + 1) (by first | omega | (simp only; omega))); (focus (rw [hq']; apply a0t [some 0, some 1, some 2, some 3, some 4, some 5, some 6, some 7, some 8]; (focus (iterate 2 (all_goals (repeat' (first | exact a0e rfl | exact a2g ⟨⟨_, rfl, rfl⟩, ⟨_, rfl, rfl⟩, ⟨_, rfl, rfl⟩⟩ | exact a0z rfl rfl rfl | exact a1u rfl rfl | exact a0c | exact trivial | refine SP ?_ | refine And.intro ?_ ?_ | refine a0b ?_ ?_ | refine a0n ?_ | exact a0d rfl rfl | exact a0i rfl rfl rfl | exact a0a _ _ | exact a0f rfl rfl rfl | ((refine a0r ?_); first | with_reducible rfl | omega | ((try simp only [wS]); omega) | rfl) ))))); any_goals (apply a0h; rfl))); (all_goals (try (first | (simp only; omega)))))
  ))
    ·obtain ⟨y, p, hpe, hy, hp, _⟩ := a5r hc (x := z) (by omega) hk
     have hsome : (a08 ns l).pe z ((rs.getD z []).getD (0 + Int.toNat (j : Int)) mg0).port.toNat = some (y, p.toNat) := by
      show (if (a1r ns.length l z (((rs.getD z []).getD (0 + Int.toNat (j : Int)) mg0).port.toNat : Nat)).2.2 = true then _ else _) = _
      rw [hpn, if_pos hk, hpe]; rfl
     have ha := hAj y p.toNat hsome
     have e : q' = b26 q y (a8z (q y) (p.toNat - 1) ((rs.getD z []).getD (0 + Int.toNat (j : Int)) mg0) at') := by rw [hT2]; unfold dlM; rw [hsome]
     rw [hpe] at hpp
     have hbn := a8j (q y) (p.toNat - 1) ha.hi ((rs.getD z []).getD (0 + Int.toNat (j : Int)) mg0) at' ha.wf ha.t ha.rl ha.ne ha.ok ha.og ha.st
     rw [show (((p.toNat - 1 : Nat) : Int) + 1) = p by omega] at hbn
     clear hAj hT2 hsome ha hpe hk
     subst e
     have hy3 : y < 3 := by omega
     rcases c6q hy3 with rfl | rfl | rfl
     ·(repeat' (first
  | refine SP ?_
  | (apply a0g <;> intro hb <;> (try simp only [nS, nT, eq_self, reduceCtorEq] at hb) <;> (try (exfalso; omega)))
  | refine a0u (by decide +kernel) ?_
  | refine a0l ?_
  | refine OB ?_
  | ((first | apply a1y (hpp) ); (focus (iterate 2 (all_goals (repeat' (first | exact a0c | exact trivial | refine SP ?_ | refine And.intro ?_ ?_ | refine a0b ?_ ?_ | refine a0o ?_ | exact a0i rfl rfl rfl | exact a0a _ _ | exact a0f rfl rfl rfl ))))); (try (any_goals fail)))
  | ((first | apply a0s [some 3] (hbn)); (focus ((iterate 2 (all_goals (repeat' (first | exact a0e rfl | exact a0c | exact trivial | refine SP ?_ | refine And.intro ?_ ?_ | refine a0b ?_ ?_ | refine a0o ?_ | exact a0d rfl rfl | exact a0a _ _ )))))); (any_goals (first | (apply a0v; rfl) )))
  | (apply a0m (Subtype.mk (j + 1) (by first | omega | (simp only; omega))); (focus (rw [hq']; apply a0t [some 0, some 1, some 2, some 3, some 4, some 5, some 6, some 7, some 8]; (focus (iterate 2 (all_goals (repeat' (first | exact a0e rfl | exact a2g ⟨⟨_, rfl, rfl⟩, ⟨_, rfl, rfl⟩, ⟨_, rfl, rfl⟩⟩ | exact a0z rfl rfl rfl | exact a1u rfl rfl | exact a0c | exact trivial | refine SP ?_ | refine And.intro ?_ ?_ | refine a0b ?_ ?_ | refine a0n ?_ | exact a0d rfl rfl | exact a0i rfl rfl rfl | exact a0a _ _ | exact a0f rfl rfl rfl | ((refine a0r ?_); first | with_reducible rfl | omega | ((try simp only [wS]); omega) | rfl) ))))); any_goals (apply a0h; rfl))); (all_goals (try (first | (simp only; omega)))))
  ))
     ·(repeat' (first
  | refine SP ?_
  | (apply a0g <;> intro hb <;> (try simp only [nS, nT, eq_self, reduceCtorEq] at hb) <;> (try (exfalso; omega)))
  | refine a0u (by decide +kernel) ?_
  | refine a0l ?_
  | refine OB ?_
  | ((first | apply a1y (hpp) ); (focus (iterate 2 (all_goals (repeat' (first | exact a0c | exact trivial | refine SP ?_ | refine And.intro ?_ ?_ | refine a0b ?_ ?_ | refine a0o ?_ | exact a0i rfl rfl rfl | exact a0a _ _ | exact a0f rfl rfl rfl ))))); (try (any_goals fail)))
  | ((first | apply a0s [some 4] (hbn)); (focus ((iterate 2 (all_goals (repeat' (first | exact a0e rfl | exact a0c | exact trivial | refine SP ?_ | refine And.intro ?_ ?_ | refine a0b ?_ ?_ | refine a0o ?_ | exact a0d rfl rfl | exact a0a _ _ )))))); (any_goals (first | (apply a0v; rfl) )))
  | (apply a0m (Subtype.mk (j + 1) (by first | omega | (simp only; omega))); (focus (rw [hq']; apply a0t [some 0, some 1, some 2, some 3, some 4, some 5, some 6, some 7, some 8]; (focus (iterate 2 (all_goals (repeat' (first | exact a0e rfl | exact a2g ⟨⟨_, rfl, rfl⟩, ⟨_, rfl, rfl⟩, ⟨_, rfl, rfl⟩⟩ | exact a0z rfl rfl rfl | exact a1u rfl rfl | exact a0c | exact trivial | refine SP ?_ | refine And.intro ?_ ?_ | refine a0b ?_ ?_ | refine a0n ?_ | exact a0d rfl rfl | exact a0i rfl rfl rfl | exact a0a _ _ | exact a0f rfl rfl rfl | ((refine a0r ?_); first | with_reducible rfl | omega | ((try simp only [wS]); omega) | rfl) ))))); any_goals (apply a0h; rfl))); (all_goals (try (first | (simp only; omega)))))
  ))
     ·(repeat' (first
  | refine SP ?_
  | (apply a0g <;> intro hb <;> (try simp only [nS, nT, eq_self, reduceCtorEq] at hb) <;> (try (exfalso; omega)))
  | refine a0u (by decide +kernel) ?_
  | refine a0l ?_
  | refine OB ?_
  | ((first | apply a1y (hpp) ); (focus (iterate 2 (all_goals (repeat' (first | exact a0c | exact trivial | refine SP ?_ | refine And.intro ?_ ?_ | refine a0b ?_ ?_ | refine a0o ?_ | exact a0i rfl rfl rfl | exact a0a _ _ | exact a0f rfl rfl rfl ))))); (try (any_goals fail)))
  | ((first | apply a0s [some 5] (hbn)); (focus ((iterate 2 (all_goals (repeat' (first | exact a0e rfl | exact a0c | exact trivial | refine SP ?_ | refine And.intro ?_ ?_ | refine a0b ?_ ?_ | refine a0o ?_ | exact a0d rfl rfl | exact a0a _ _ )))))); (any_goals (first | (apply a0v; rfl) )))
  | (apply a0m (Subtype.mk (j + 1) (by first | omega | (simp only; omega))); (focus (rw [hq']; apply a0t [some 0, some 1, some 2, some 3, some 4, some 5, some 6, some 7, some 8]; (focus (iterate 2 (all_goals (repeat' (first | exact a0e rfl | exact a2g ⟨⟨_, rfl, rfl⟩, ⟨_, rfl, rfl⟩, ⟨_, rfl, rfl⟩⟩ | exact a0z rfl rfl rfl | exact a1u rfl rfl | exact a0c | exact trivial | refine SP ?_ | refine And.intro ?_ ?_ | refine a0b ?_ ?_ | refine a0n ?_ | exact a0d rfl rfl | exact a0i rfl rfl rfl | exact a0a _ _ | exact a0f rfl rfl rfl | ((refine a0r ?_); first | with_reducible rfl | omega | ((try simp only [wS]); omega) | rfl) ))))); any_goals (apply a0h; rfl))); (all_goals (try (first | (simp only; omega)))))
  ))
   ·obtain rfl : j = W.length := by omega
    rw [List.take_length, <- hTz]
    (repeat' (first
  | refine SP ?_
  | (apply a0g <;> intro hb <;> (try simp only [nS, nT, eq_self, reduceCtorEq] at hb) <;> (try (exfalso; omega)))
  | (apply a0m (Subtype.mk (z + 1) (by first | omega | (simp only; omega))); (focus (rw [hTz1]; apply a0t [some 0, some 1, some 2, some 3, some 4, some 5, some 6, some 7]; (focus (iterate 2 (all_goals (repeat' (first | exact a0e rfl | exact a2g ⟨⟨_, rfl, rfl⟩, ⟨_, rfl, rfl⟩, ⟨_, rfl, rfl⟩⟩ | exact a0z rfl rfl rfl | exact a0c | exact trivial | refine SP ?_ | refine And.intro ?_ ?_ | refine a0b ?_ ?_ | refine a0n ?_ | exact a0d rfl rfl | exact a0i rfl rfl rfl | exact a0a _ _ | exact a0f rfl rfl rfl | ((refine a0r ?_); first | with_reducible rfl | omega | ((try simp only [wS]); omega) | rfl) ))))); any_goals (apply a0h; rfl))); (all_goals (try (first | (simp only; omega)))))
  ))
  ·obtain rfl : z = 3 := by omega
   have e : a4y (a08 ns l) S at' = dlL (a08 ns l) at' (flP S at' 3) (fun j => a1v (a07 (S j) at')) := by unfold a4y; rw [show (a08 ns l).n = 3 from hn]
   rw [e]
   (repeat' (first
  | refine SP ?_
  | (apply a0g <;> intro hb <;> (try simp only [nS, nT, eq_self, reduceCtorEq] at hb) <;> (try (exfalso; omega)))
  | (apply a04 [some 0, some 1, some 2, some 3, some 4, some 5]; (focus (iterate 2 (all_goals (repeat' (first | exact a0e rfl | exact a2g ⟨⟨_, rfl, rfl⟩, ⟨_, rfl, rfl⟩, ⟨_, rfl, rfl⟩⟩ | exact trivial | refine SP ?_ | refine And.intro ?_ ?_ | exact a0a _ _ | exact a0f rfl rfl rfl ))))); any_goals (apply a0h; rfl))
  ))
end Go.Vx.L42.B
set_option maxRecDepth 100000
namespace Go.Vx.L42.B
open Go Go.Proofs Go.Vx.L42
abbrev c8m (b : Nat) : Blk := .arr true 40 1 3 fun i _ => .ptr (b + i) 24 0 0
theorem a5i {ρ : Nat -> Option Nat} {b : Nat} {c' : Nat -> Nat -> AV} (h : (∃ y, ρ (b + 0) = some y /\ c' 0 0 = .ptr y 24 0 0) /\ (∃ y, ρ (b + 1) = some y /\ c' 1 0 = .ptr y 24 0 0) /\ (∃ y, ρ (b + 2) = some y /\ c' 2 0 = .ptr y 24 0 0)) : a3n ρ (c8m b) (.arr true 40 1 3 c') := by
 refine a1w (a39 rfl) rfl fun i hi j hj => ?_
 obtain rfl : j = 0 := by omega
 obtain ⟨h0, h1, h2⟩ := h
 rcases c6q hi with rfl | rfl | rfl
 ·obtain ⟨y, e1, e2⟩ := h0; rw [e2]; exact a0d e1 rfl
 ·obtain ⟨y, e1, e2⟩ := h1; rw [e2]; exact a0d e1 rfl
 ·obtain ⟨y, e1, e2⟩ := h2; rw [e2]; exact a0d e1 rfl
set_option maxHeartbeats 16000000 in
theorem c8w (l : List Ed) (cap : Option Nat) (hl : l.length <= maxLen) (hl20 : l.length <= 20) (ns : List Nd) (cap' : Option Nat) (hn : ns.length = 3) (hQ : NQ ns l) (hb0 : ∀ x, x < ns.length -> b67 (ns.getD x nd0) = false) :
  Runs Tryd.prog 3 [aN ns.length l cap ns cap'] [gB l, ndB ns] (Det (.sb true) [gB l, ndB ns]) := by
 have hmx : maxLen = 9223372036854775807 := by decide
 have hcz := hQ.ok.ck
 have hck := a38 ns.length l cap hl ns cap' (by omega)
 have hex := (a2u ns.length l cap hl ns cap' (by omega) hQ.ok.wf).2 hcz
 have hEl := a5z ns l ns.length
 rw [hcz] at hck
 have hw0 := a2f (ns.getD 0 nd0) (a3d hQ (x := 0) (by omega))
 have hw1 := a2f (ns.getD 1 nd0) (a3d hQ (x := 1) (by omega))
 have hw2 := a2f (ns.getD 2 nd0) (a3d hQ (x := 2) (by omega))
 refine Runs.mk a1a Tryd.call3 Tryd.func3 rfl Tryd.ntmps3 Tryd.results3 rfl ?_
 (repeat' (first
  | refine SP ?_
  | (apply a0g <;> intro hb <;> (try simp only [nS, nT, eq_self, reduceCtorEq] at hb) <;> (try (exfalso; omega)))
  | refine a0l ?_
  ))
 refine a00 (σ := Nat) (fun x => x <= ns.length) (fun x => ⟨[(1, .ptr 2 3 0 0), (26, .sl 1 6 0 ns.length cap'), (27, .val (.int .i64 ns.length)), (28, .val (.int .i64 x))], [gB l, ndB ns, .var [.val (.int .i64 ns.length), .sl 0 4 0 l.length cap, .sl 1 6 0 ns.length cap']]⟩) (fun x => ns.length - x) (0) ?_ ?_ ?_
 ·omega
 ·(apply a0t [some 0, some 1, some 2]; (focus (iterate 2 (all_goals (repeat' (first | exact a0c | exact trivial | refine SP ?_ | refine And.intro ?_ ?_ | refine a0b ?_ ?_ | refine a0n ?_ | exact a0d rfl rfl | exact a0i rfl rfl rfl | exact a0a _ _ | exact a0f rfl rfl rfl ))))); any_goals (apply a0h; rfl))
 rintro x hx
 by_cases hxl : x < ns.length
 ·have hz : 0 + Int.toNat (x : Int) = x := by omega
  have hq := of_decide_eq_false (hb0 x hxl)
  rw [<- hz] at hq
  clear hck hex hb0 hQ hcz hw0 hw1 hw2
  (repeat' (first
  | refine SP ?_
  | (apply a0g <;> intro hb <;> (try simp only [nS, nT, eq_self, reduceCtorEq] at hb) <;> (try (exfalso; omega)))
  | refine a0l ?_
  | refine OB ?_
  | (apply a0m (Subtype.mk (x + 1) _); (focus (apply a0t [some 0, some 1, some 2]; (focus (iterate 2 (all_goals (repeat' (first | exact a0c | exact trivial | refine SP ?_ | refine And.intro ?_ ?_ | refine a0b ?_ ?_ | refine a0n ?_ | exact a0d rfl rfl | exact a0i rfl rfl rfl | exact a0a _ _ | exact a0f rfl rfl rfl | ((refine a0r ?_); first | with_reducible rfl | omega | ((try simp only [wS]); omega) | rfl) ))))); any_goals (apply a0h; rfl))); (all_goals (try (first | omega | (simp only; omega)))))
  ))
 ·obtain rfl : x = ns.length := by omega
  (repeat' (first
  | refine SP ?_
  | (apply a0g <;> intro hb <;> (try simp only [nS, nT, eq_self, reduceCtorEq] at hb) <;> (try (exfalso; omega)))
  | refine a0l ?_
  | ((first | apply a0j [some 0, some 1] (hex) ); (focus ((iterate 2 (all_goals (repeat' (first | exact a0c | exact trivial | refine SP ?_ | refine And.intro ?_ ?_ | refine a0b ?_ ?_ | refine a0o ?_ | exact a0i rfl rfl rfl | exact a0a _ _ | exact a0f rfl rfl rfl )))))); any_goals (apply a0k; rfl))
  | ((first | apply a0j [some 0, some 1] (hck) ); (focus ((iterate 2 (all_goals (repeat' (first | exact a0c | exact trivial | refine SP ?_ | refine And.intro ?_ ?_ | refine a0b ?_ ?_ | refine a0o ?_ | exact a0i rfl rfl rfl | exact a0a _ _ | exact a0f rfl rfl rfl )))))); any_goals (apply a0k; rfl))
  ))
  refine a2m 4 ?_
  (repeat' (first
  | refine SP ?_
  | (with_reducible refine a1k ?_)
  | (apply a0g <;> intro hb <;> (try simp only [nS, nT, eq_self, reduceCtorEq] at hb) <;> (try (exfalso; (first | omega | (simp only [IntKind.wrap_i64] at hb; omega)); done)))
  | refine a0l ?_
  | refine OB ?_
  | ((first | apply a0j [] (hw0) ); (focus ((iterate 2 (all_goals (repeat' (first | exact a0c | exact trivial | refine And.intro ?_ ?_ | refine a0b ?_ ?_ | refine a0o ?_ | exact a0a _ _ | refine a0r ?_ )))); done)); any_goals (apply a0k; rfl))
  | ((first | apply a0j [] (hw1) ); (focus ((iterate 2 (all_goals (repeat' (first | exact a0c | exact trivial | refine And.intro ?_ ?_ | refine a0b ?_ ?_ | refine a0o ?_ | exact a0a _ _ | refine a0r ?_ )))); done)); any_goals (apply a0k; rfl))
  | ((first | apply a0j [] (hw2) ); (focus ((iterate 2 (all_goals (repeat' (first | exact a0c | exact trivial | refine And.intro ?_ ?_ | refine a0b ?_ ?_ | refine a0o ?_ | exact a0a _ _ )))); done)); any_goals (apply a0k; rfl))
  ))
  refine a00 (σ := Nat) (fun x => x <= 30) (fun x => ⟨[(1, .ptr 2 3 0 0), (5, .sl 3 2 0 ns.length none), (7, .sl 4 1 0 3 none), (11, .val (.int .i64 (atK x)))], [gB l, ndB ns, .var [.val (.int .i64 ns.length), .sl 0 4 0 l.length cap, .sl 1 6 0 ns.length cap'], chB true (exL ns l ns.length), c8m 5, .obj (a1h (stS ns l x 0)), .obj (a1h (stS ns l x 1)), .obj (a1h (stS ns l x 2))]⟩) (fun x => 30 - x) (0) ?_ ?_ ?_
  ·omega
  ·(apply a0t [some 0, some 1, some 2, some 3, some 15, some 5, some 9, some 13]; (focus (iterate 2 (all_goals (repeat' (first | exact a0e rfl | exact a5i ⟨⟨_, rfl, rfl⟩, ⟨_, rfl, rfl⟩, ⟨_, rfl, rfl⟩⟩ | exact a0c | exact trivial | refine SP ?_ | refine And.intro ?_ ?_ | refine a0b ?_ ?_ | refine a0n ?_ | exact a0d rfl rfl | exact a0i rfl rfl rfl | exact a0a _ _ | exact a0f rfl rfl rfl | exact a06 rfl rfl rfl ))))); any_goals (apply a0h; rfl))
  rintro k hk
  have hat := a2w k
  have hat1 := a2w (k + 1)
  by_cases hkl : k < 30
  ·have hS := a69 hQ k hk
   have hr := b66 ns l cap cap' hl (stS ns l k) (atK k) hn hQ.ok (fun j hj => b1i hQ (by omega) hS (by omega)) (fun j hj => b7w hQ (by omega) hS (by omega)) (fun i x y q hi hx hp => b7x hQ (by omega) hS i x y q (by omega) hx hp)
   have hs1 := a6q (ns := ns) (l := l) k
   clear hck hex hb0 hQ hcz hS hw0 hw1 hw2
   generalize hq1 : stS ns l (k + 1) = S1 at *
   generalize a4y (a08 ns l) (stS ns l k) (atK k) = S2 at *
   generalize stS ns l k = S at *
   (repeat' (first
  | refine SP ?_
  | (apply a0g <;> intro hb <;> (try simp only [nS, nT, eq_self, reduceCtorEq] at hb) <;> (try (exfalso; omega)))
  | refine a0l ?_
  | ((first | apply a0j [some 0, some 1, some 4, some 5, some 6, some 7] (hr) ); (focus ((iterate 2 (all_goals (repeat' (first | exact a0e rfl | exact a2g ⟨⟨_, rfl, rfl⟩, ⟨_, rfl, rfl⟩, ⟨_, rfl, rfl⟩⟩ | exact a0c | exact trivial | refine SP ?_ | refine And.intro ?_ ?_ | refine a0b ?_ ?_ | refine a0o ?_ | exact a0i rfl rfl rfl | exact a0a _ _ | exact a0f rfl rfl rfl )))))); any_goals (apply a0k; rfl))
  | (apply a0m (Subtype.mk (k + 1) (by first | omega | (simp only; omega))); (focus (rw [hq1, hs1]; apply a0t [some 0, some 1, some 2, some 3, some 4, some 5, some 6, some 7]; (focus (iterate 2 (all_goals (repeat' (first | exact a0e rfl | exact a5i ⟨⟨_, rfl, rfl⟩, ⟨_, rfl, rfl⟩, ⟨_, rfl, rfl⟩⟩ | exact a0c | exact trivial | refine SP ?_ | refine And.intro ?_ ?_ | refine a0b ?_ ?_ | refine a0n ?_ | exact a0d rfl rfl | exact a0i rfl rfl rfl | exact a0a _ _ | exact a0f rfl rfl rfl | ((refine a0r ?_); first | with_reducible rfl | omega | ((try simp only [wS]); omega) | rfl) ))))); any_goals (apply a0h; rfl))); (all_goals (try (first | (simp only; omega)))))
  ))
  ·obtain rfl : k = 30 := by omega
   have hE := fun i (hi : i < ns.length) => b1s hQ (by omega) hi
   clear hck hex hb0 hQ hcz hw0 hw1 hw2
   generalize stS ns l 30 = S at *
   generalize exL ns l ns.length = E at *
   (repeat' (first
  | refine SP ?_
  | (apply a0g <;> intro hb <;> (try simp only [nS, nT, eq_self, reduceCtorEq] at hb) <;> (try (exfalso; omega)))
  | refine a0l ?_
  ))
   refine a00 (σ := Nat) (fun x => x <= 3) (fun x => ⟨[(1, .ptr 2 3 0 0), (5, .sl 3 2 0 ns.length none), (7, .sl 4 1 0 3 none), (96, .sl 4 1 0 3 none), (97, .val (.int .i64 3)), (98, .val (.int .i64 x))], [gB l, ndB ns, .var [.val (.int .i64 ns.length), .sl 0 4 0 l.length cap, .sl 1 6 0 ns.length cap'], chB true E, c8m 5, .obj (a1h (S 0)), .obj (a1h (S 1)), .obj (a1h (S 2))]⟩) (fun x => 3 - x) (0) ?_ ?_ ?_
   ·omega
   ·(apply a0t [some 0, some 1, some 2, some 3, some 4, some 5, some 6, some 7]; (focus (iterate 2 (all_goals (repeat' (first | exact a0e rfl | exact a5i ⟨⟨_, rfl, rfl⟩, ⟨_, rfl, rfl⟩, ⟨_, rfl, rfl⟩⟩ | exact a0c | exact trivial | refine SP ?_ | refine And.intro ?_ ?_ | refine a0b ?_ ?_ | refine a0n ?_ | exact a0d rfl rfl | exact a0i rfl rfl rfl | exact a0a _ _ | exact a0f rfl rfl rfl ))))); any_goals (apply a0h; rfl))
   rintro i hi
   by_cases hil : i < 3
   ·have hz : 0 + Int.toNat (i : Int) = i := by omega
    obtain ⟨e1, e2, e3, e4⟩ := hE i (by omega)
    rw [<- Nat.zero_add ((E.getD i ch0).m).toNat] at e2
    rw [show E.getD i ch0 = E.getD (0 + Int.toNat (i : Int)) ch0 by rw [hz]] at e1 e2 e3 e4
    have hp := a5d (S i)
    clear hE
    rcases c6q hil with rfl | rfl | rfl
    ·(repeat' (first
  | refine SP ?_
  | (apply a0g <;> intro hb <;> (try simp only [nS, nT, eq_self, reduceCtorEq] at hb) <;> (try (exfalso; (first | omega | (simp only [IntKind.wrap_i64] at hb; omega)); done)))
  | refine a0u (by decide +kernel) ?_
  | refine a0l ?_
  | refine OB ?_
  | ((first | apply a0s [some 5] (hp)); (focus ((iterate 2 (all_goals (repeat' (first | exact a0e rfl | exact a0c | exact trivial | refine SP ?_ | refine And.intro ?_ ?_ | refine a0b ?_ ?_ | exact a0d rfl rfl )))))); (any_goals (first | (apply a0v; rfl) )))
  | (apply a0m (Subtype.mk (0 + 1) _); (focus (apply a0t [some 0, some 1, some 2, some 3, some 4, some 5, some 6, some 7]; (focus (iterate 2 (all_goals (repeat' (first | exact a0e rfl | exact a5i ⟨⟨_, rfl, rfl⟩, ⟨_, rfl, rfl⟩, ⟨_, rfl, rfl⟩⟩ | exact a0c | exact trivial | refine SP ?_ | refine And.intro ?_ ?_ | refine a0b ?_ ?_ | refine a0n ?_ | exact a0d rfl rfl | exact a0i rfl rfl rfl | exact a0a _ _ | exact a0f rfl rfl rfl ))))); any_goals (apply a0h; rfl))); (all_goals (try (first | omega | (simp only; omega)))))
  ))
    ·(repeat' (first
  | refine SP ?_
  | (apply a0g <;> intro hb <;> (try simp only [nS, nT, eq_self, reduceCtorEq] at hb) <;> (try (exfalso; (first | omega | (simp only [IntKind.wrap_i64] at hb; omega)); done)))
  | refine a0u (by decide +kernel) ?_
  | refine a0l ?_
  | refine OB ?_
  | ((first | apply a0s [some 6] (hp)); (focus ((iterate 2 (all_goals (repeat' (first | exact a0e rfl | exact a0c | exact trivial | refine SP ?_ | refine And.intro ?_ ?_ | refine a0b ?_ ?_ | exact a0d rfl rfl )))))); (any_goals (first | (apply a0v; rfl) )))
  | (apply a0m (Subtype.mk (1 + 1) _); (focus (apply a0t [some 0, some 1, some 2, some 3, some 4, some 5, some 6, some 7]; (focus (iterate 2 (all_goals (repeat' (first | exact a0e rfl | exact a5i ⟨⟨_, rfl, rfl⟩, ⟨_, rfl, rfl⟩, ⟨_, rfl, rfl⟩⟩ | exact a0c | exact trivial | refine SP ?_ | refine And.intro ?_ ?_ | refine a0b ?_ ?_ | refine a0n ?_ | exact a0d rfl rfl | exact a0i rfl rfl rfl | exact a0a _ _ | exact a0f rfl rfl rfl ))))); any_goals (apply a0h; rfl))); (all_goals (try (first | omega | (simp only; omega)))))
  ))
    ·(repeat' (first
  | refine SP ?_
  | (apply a0g <;> intro hb <;> (try simp only [nS, nT, eq_self, reduceCtorEq] at hb) <;> (try (exfalso; (first | omega | (simp only [IntKind.wrap_i64] at hb; omega)); done)))
  | refine a0u (by decide +kernel) ?_
  | refine a0l ?_
  | refine OB ?_
  | ((first | apply a0s [some 7] (hp)); (focus ((iterate 2 (all_goals (repeat' (first | exact a0e rfl | exact a0c | exact trivial | refine SP ?_ | refine And.intro ?_ ?_ | refine a0b ?_ ?_ | exact a0d rfl rfl )))))); (any_goals (first | (apply a0v; rfl) )))
  | (apply a0m (Subtype.mk (2 + 1) _); (focus (apply a0t [some 0, some 1, some 2, some 3, some 4, some 5, some 6, some 7]; (focus (iterate 2 (all_goals (repeat' (first | exact a0e rfl | exact a5i ⟨⟨_, rfl, rfl⟩, ⟨_, rfl, rfl⟩, ⟨_, rfl, rfl⟩⟩ | exact a0c | exact trivial | refine SP ?_ | refine And.intro ?_ ?_ | refine a0b ?_ ?_ | refine a0n ?_ | exact a0d rfl rfl | exact a0i rfl rfl rfl | exact a0a _ _ | exact a0f rfl rfl rfl ))))); any_goals (apply a0h; rfl))); (all_goals (try (first | omega | (simp only; omega)))))
  ))
   ·obtain rfl : i = 3 := by omega
    (repeat' (first
  | refine SP ?_
  | (apply a0g <;> intro hb <;> (try simp only [nS, nT, eq_self, reduceCtorEq] at hb) <;> (try (exfalso; omega)))
  | (apply a04 [some 0, some 1]; (focus (iterate 2 (all_goals (repeat' (first | exact trivial | refine SP ?_ | refine And.intro ?_ ?_ | exact a1j rfl | exact a0f rfl rfl rfl ))))); any_goals (apply a0h; rfl))
  ))
end Go.Vx.L42.B

/- Lemmas of a small executor for the model, and contracts of functions, used for the law that this claim proves. No condition. -/
import Derived.Test.YtodbfpjjahpahaaDoorBXC
set_option linter.unusedSimpArgs false
set_option linter.unusedVariables false
set_option maxRecDepth 100000
namespace Go.Vx.L42.B
open Go Go.Proofs Go.Vx.L42
structure Keep (T : Prop) : Prop where
 out : T
theorem c31 {G T : Prop} (k : Keep T -> G) (key : T) : G := k ⟨key⟩
theorem a3f {ρ : Nat -> Option Nat} (h0 : ρ 2 = some 2) (h1 : ρ 3 = some 3) (h2 : ρ 4 = some 4) (h3 : ρ 5 = some 5) (h4 : ρ 6 = some 6) (h5 : ρ 7 = some 7) (h6 : ρ 8 = some 8) (h7 : ρ 9 = some 9) : a3n ρ c3q c3q := by
 refine ⟨ks8, ptC, rfl, rfl, fun x hx => ?_⟩
 simp only [List.mem_cons, List.not_mem_nil, or_false] at hx
 rcases hx with rfl | rfl | rfl | rfl | rfl | rfl | rfl | rfl
 ·exact a0d h0 rfl
 ·exact a0d h1 rfl
 ·exact a0d h2 rfl
 ·exact a0d h3 rfl
 ·exact a0d h4 rfl
 ·exact a0d h5 rfl
 ·exact a0d h6 rfl
 ·exact a0d h7 rfl
theorem c8z (last at' : Int) (r : RS) : bsF last at' (fgF last at' r) = bsF last at' r := by
 unfold bsF
 congr 1
 cases r with
 | none => rfl
 | some v =>
  obtain ⟨d, ts⟩ := v
  have e : fgF last at' (some (d, ts)) = if 0 < rcN last at' ts then some (d, ts) else none := rfl
  by_cases hp : 0 < rcN last at' ts
  ·rw [e, if_pos hp, e, if_pos hp]
  ·rw [e, if_neg hp]; rfl
def bsP (c : CS) (at' : Int) : Nat -> List (Option DS)
 | 0 => []
 | x + 1 => bsP c at' x ++ [bsF (c.rl x) at' (c.rc x)]
theorem a7f (c : CS) (at' : Int) : ∀ x, (bsP c at' x).length = x
 | 0 => rfl
 | x + 1 => by rw [bsP, List.length_append, a7f c at' x]; rfl
theorem b5f (c : CS) (at' : Int) : ∀ x i, i < x -> (bsP c at' x).getD i none = bsF (c.rl i) at' (c.rc i)
 | 0, i, h => by omega
 | x + 1, i, h => by
  have hl := a7f c at' x
  rw [bsP, List.getD_eq_getElem?_getD]
  by_cases hi : i < x
  ·rw [List.getElem?_append_left (by omega), <- List.getD_eq_getElem?_getD, b5f c at' x i hi]
  ·obtain rfl : i = x := by omega
   rw [List.getElem?_append_right (by omega), hl, Nat.sub_self]; rfl
theorem c1o (own : DS) (ps : List (Option DS)) (i : Nat) : a7t own ps i = 2 \/ a7t own ps i = 3 \/ a7t own ps i = 5 \/ a7t own ps i = 6 := by
 unfold a7t
 split
 ·exact .inl rfl
 ·split
  ·exact .inr (.inr (.inr rfl))
  ·split
   ·exact .inr (.inl rfl)
   ·exact .inr (.inr (.inl rfl))
theorem c5k {own : DS} {ps : List (Option DS)} {i : Nat} (h : a55 ps i = false) : a7t own ps i = 2 \/ a7t own ps i = 3 := by
 unfold a7t
 split
 ·exact .inl rfl
 ·rename_i hs
  split
  ·rename_i hb
   exfalso
   rcases a9h ps ps.length with ⟨e, _⟩ | ⟨_, e, _⟩
   ·rw [show bst ps ps.length = a56 ps from rfl] at e; omega
   ·rw [show bst ps ps.length = a56 ps from rfl, <- hb, Int.toNat_natCast, h] at e; cases e
  ·rw [if_pos (.inl h)]; exact .inr rfl
structure wfC (c : CS) (at' : Int) : Prop where
 q : wfQ c.nd
 own : wfD (owD c.nd)
 cl : 127 < c.nd.cl
 at0 : 0 <= at' /\ at' <= 1000000000
 last : 0 <= c.last /\ c.last <= at'
 rl : ∀ i, i < 8 -> 0 <= c.rl i /\ c.rl i <= at'
 ok : ∀ i, i < 8 -> b49 (c.rc i)
 ds : ∀ i d ts, i < 8 -> c.rc i = some (d, ts) -> wfD d /\ 0 <= d.st /\ d.st <= 1000000
 st : ∀ i, i < 8 -> c.st i = 6 \/ c.st i = 7 \/ c.st i = 8 \/ (c.st i = 4 /\ c.mrk i < at')
 mrk : ∀ i, i < 8 -> 0 <= c.mrk i /\ c.mrk i <= at'
 an : ∀ i, i < 8 -> 0 <= c.an i /\ c.an i <= 65535
def a07 (c : CS) (at' : Int) : CS := ⟨c.nd, b75 (owD c.nd) (bsP c at' 8), at', fun i => stC ((b5y (owD c.nd) (bsP c at' 8)).getD i 0), c.an, fun i => if stC ((b5y (owD c.nd) (bsP c at' 8)).getD i 0) = c.st i then c.mrk i else at', c.rl, fun i => fgF (c.rl i) at' (c.rc i)⟩
theorem c9d {c : CS} {at' : Int} (h : wfC c at') : wfP (bsP c at' 8) := by
 have hd : wfD (default : DS) /\ 0 <= (default : DS).st /\ (default : DS).st <= 1000000 := by
  refine ⟨⟨?_, ?_, ?_, ?_, ?_, ?_, ?_, ?_, ?_, ?_, ?_⟩, by decide, by decide⟩ <;> (first | (show inI 0; unfold inI; omega) | (show inU 0; unfold inU; omega))
 intro i
 unfold a3g
 by_cases hi : i < 8
 ·rw [b5f c at' 8 i hi]
  unfold bsF fgF
  cases hr : c.rc i with
  | none => exact hd
  | some v =>
   obtain ⟨d, ts⟩ := v
   simp only
   split
   ·exact h.ds i d ts hi hr
   ·exact hd
 ·rw [List.getD_eq_getElem?_getD, List.getElem?_eq_none (by rw [a7f]; omega)]
  exact hd
set_option maxHeartbeats 16000000 in
theorem a4l (c : CS) (at' : Int) (h : wfC c at') : Runs Tryd.prog 33 [.ptr 0 24 0 0, .val (.int .i64 at')] [.obj (a1h c)] (Det (.tup [.dead, .val (.int .i64 0)]) [.obj (a1h (a07 c at'))]) := by
 have hw := b97 c.nd c.fol c.last at' ⟨h.at0.1, h.at0.2, h.last.2⟩
 have hown := b23 c.nd c.fol c.last
 have hown' := b23 c.nd c.fol at'
 have hbw := c9d h
 have hbl := a7f c at' 8
 have hdc := b3g (owD c.nd) (bsP c at' 8) none (by rw [hbl]; omega) hbw h.own h.cl
 have hms := c0v (owD c.nd) (bsP c at' 8) none (by rw [hbl]; omega) hbw h.own h.cl
 have hCg := a9j (owD c.nd) (bsP c at' 8)
 rw [hbl] at hdc hms
 have hex := b6n
 unfold a07
 rw [a5x, a5x]
 refine Runs.mkObj a1a Tryd.call33 Tryd.func33 rfl Tryd.ntmps33 Tryd.results33 rfl rfl ?_
 (repeat' (first
  | refine SP ?_
  | refine a05 (by decide) ?_
  | refine a0l ?_
  | ((first | apply a0j [some 0] (hw) ); (focus ((iterate 2 (all_goals (repeat' (first | exact a0q | exact a0c | exact trivial | refine SP ?_ | refine And.intro ?_ ?_ | refine a0b ?_ ?_ | refine a2j ?_ rfl | exact a0d rfl rfl | exact a0a _ _ )))))); any_goals (apply a0k; rfl))
  ))
 refine a00 (σ := Nat) (fun x => x <= 8) (fun x => ⟨[(0, .ptr 0 24 0 0), (1, .val (.int .i64 at')), (7, .sl 18 12 0 x none), (8, .val (.int .i64 ((x : Int) + 1)))], [b71 c.nd c.fol c.last, c3q, stB (c.st 0) (c.an 0) (c.mrk 0) 10, stB (c.st 1) (c.an 1) (c.mrk 1) 11, stB (c.st 2) (c.an 2) (c.mrk 2) 12, stB (c.st 3) (c.an 3) (c.mrk 3) 13, stB (c.st 4) (c.an 4) (c.mrk 4) 14, stB (c.st 5) (c.an 5) (c.mrk 5) 15, stB (c.st 6) (c.an 6) (c.mrk 6) 16, stB (c.st 7) (c.an 7) (c.mrk 7) 17, .obj (a3j (c.rl 0) (bif Nat.blt 0 x then fgF (c.rl 0) at' (c.rc 0) else c.rc 0)), .obj (a3j (c.rl 1) (bif Nat.blt 1 x then fgF (c.rl 1) at' (c.rc 1) else c.rc 1)), .obj (a3j (c.rl 2) (bif Nat.blt 2 x then fgF (c.rl 2) at' (c.rc 2) else c.rc 2)), .obj (a3j (c.rl 3) (bif Nat.blt 3 x then fgF (c.rl 3) at' (c.rc 3) else c.rc 3)), .obj (a3j (c.rl 4) (bif Nat.blt 4 x then fgF (c.rl 4) at' (c.rc 4) else c.rc 4)), .obj (a3j (c.rl 5) (bif Nat.blt 5 x then fgF (c.rl 5) at' (c.rc 5) else c.rc 5)), .obj (a3j (c.rl 6) (bif Nat.blt 6 x then fgF (c.rl 6) at' (c.rc 6) else c.rc 6)), .obj (a3j (c.rl 7) (bif Nat.blt 7 x then fgF (c.rl 7) at' (c.rc 7) else c.rc 7)), .arr true 151 12 x (a2x pbC none (bsP c at' x))]⟩) (fun x => 8 - x) (0) ?_ ?_ ?_
 ·omega
 ·(apply a0t [some 0, some 1, some 2, some 3, some 4, some 5, some 6, some 7, some 8, some 9, some 10, some 11, some 12, some 13, some 14, some 15, some 16, some 17, none]; (focus (iterate 2 (all_goals (repeat' (first | exact a0q | exact a0e rfl | exact a3f rfl rfl rfl rfl rfl rfl rfl rfl | exact a0x rfl | exact a0c | exact trivial | refine SP ?_ | refine And.intro ?_ ?_ | refine a0b ?_ ?_ | refine a0n ?_ | exact a0d rfl rfl | exact a0a _ _ | exact a3a rfl | ((refine a52 ?_); first | with_reducible rfl | omega | ((try simp only [wS]); omega) | rfl) ))))); any_goals (apply a0h; rfl))
 rintro x hx
 by_cases hxl : x < 8
 ·have hlx := a7f c at' x
  have hsx : bsP c at' (x + 1) = bsP c at' x ++ [bsF (c.rl x) at' (c.rc x)] := rfl
  have hF := c1u (c.rl x) at' (c.rc x) ⟨(h.rl x hxl).1, by have := (h.rl x hxl).2; have := h.at0.2; omega, h.at0⟩ (h.ok x hxl)
  have hB := c4o (c.rl x) at' (fgF (c.rl x) at' (c.rc x)) ⟨(h.rl x hxl).1, by have := (h.rl x hxl).2; have := h.at0.2; omega, h.at0⟩ (b1r (h.ok x hxl))
  rw [c8z] at hB
  generalize bsF (c.rl x) at' (c.rc x) = o at *
  generalize hq1 : bsP c at' (x + 1) = q1 at *
  generalize bsP c at' x = q at *
  clear hdc hms hCg hbw hbl hex hown hown' hw h
  rcases lt8 hxl with rfl | rfl | rfl | rfl | rfl | rfl | rfl | rfl
  ·(repeat' (first
  | refine SP ?_
  | refine a01 (by first | exact beq_self_eq_true _ | decide) ?_
  | refine a0l ?_
  | refine OB ?_
  | ((first | apply a0j [some 10] (hF) ); (focus ((iterate 2 (all_goals (repeat' (first | exact a0e rfl | exact a0c | exact trivial | refine SP ?_ | refine And.intro ?_ ?_ | refine a0b ?_ ?_ | exact a0d rfl rfl | exact a0a _ _ )))))); any_goals (apply a0k; rfl))
  | ((first | apply a0j [some 10] (hB) ); (focus ((iterate 2 (all_goals (repeat' (first | exact a0e rfl | exact a0c | exact trivial | refine SP ?_ | refine And.intro ?_ ?_ | refine a0b ?_ ?_ | exact a0d rfl rfl | exact a0a _ _ )))))); any_goals (apply a0k; rfl))
  | (apply a0m (Subtype.mk (0 + 1) (by first | omega | (simp only; omega))); (focus (rw [hq1, hsx]; apply a0t [some 0, some 1, some 2, some 3, some 4, some 5, some 6, some 7, some 8, some 9, some 10, some 11, some 12, some 13, some 14, some 15, some 16, some 17, some _]; (focus (iterate 2 (all_goals (repeat' (first | exact a0q | exact a0e rfl | exact a3f rfl rfl rfl rfl rfl rfl rfl rfl | exact a0x rfl | exact a0c | exact trivial | refine SP ?_ | refine And.intro ?_ ?_ | refine a0b ?_ ?_ | refine a0n ?_ | exact a0d rfl rfl | exact a0i rfl rfl rfl | exact a0a _ _ | exact a1j rfl | ((first | show (_ : Nat) = _); first | with_reducible rfl | omega | ((try simp only [wS]); omega) | rfl) | apply a1l | refine a0y ?_ ?_ | exact a2o | with_reducible rfl ))))); any_goals (apply a0h; rfl))); (all_goals (try (first | (simp only; omega)))))
  ))
  ·(repeat' (first
  | refine SP ?_
  | refine a01 (by first | exact beq_self_eq_true _ | decide) ?_
  | refine a0l ?_
  | refine OB ?_
  | ((first | apply a0j [some 11] (hF) ); (focus ((iterate 2 (all_goals (repeat' (first | exact a0e rfl | exact a0c | exact trivial | refine SP ?_ | refine And.intro ?_ ?_ | refine a0b ?_ ?_ | exact a0d rfl rfl | exact a0a _ _ )))))); any_goals (apply a0k; rfl))
  | ((first | apply a0j [some 11] (hB) ); (focus ((iterate 2 (all_goals (repeat' (first | exact a0e rfl | exact a0c | exact trivial | refine SP ?_ | refine And.intro ?_ ?_ | refine a0b ?_ ?_ | exact a0d rfl rfl | exact a0a _ _ )))))); any_goals (apply a0k; rfl))
  | (apply a0m (Subtype.mk (1 + 1) (by first | omega | (simp only; omega))); (focus (rw [hq1, hsx]; apply a0t [some 0, some 1, some 2, some 3, some 4, some 5, some 6, some 7, some 8, some 9, some 10, some 11, some 12, some 13, some 14, some 15, some 16, some 17, some _]; (focus (iterate 2 (all_goals (repeat' (first | exact a0q | exact a0e rfl | exact a3f rfl rfl rfl rfl rfl rfl rfl rfl | exact a0x rfl | exact a0c | exact trivial | refine SP ?_ | refine And.intro ?_ ?_ | refine a0b ?_ ?_ | refine a0n ?_ | exact a0d rfl rfl | exact a0i rfl rfl rfl | exact a0a _ _ | exact a1j rfl | ((first | show (_ : Nat) = _); first | with_reducible rfl | omega | ((try simp only [wS]); omega) | rfl) | apply a1l | refine a0y ?_ ?_ | exact a2o | with_reducible rfl ))))); any_goals (apply a0h; rfl))); (all_goals (try (first | (simp only; omega)))))
  ))
  ·(repeat' (first
  | refine SP ?_
  | refine a01 (by first | exact beq_self_eq_true _ | decide) ?_
  | refine a0l ?_
  | refine OB ?_
  | ((first | apply a0j [some 12] (hF) ); (focus ((iterate 2 (all_goals (repeat' (first | exact a0e rfl | exact a0c | exact trivial | refine SP ?_ | refine And.intro ?_ ?_ | refine a0b ?_ ?_ | exact a0d rfl rfl | exact a0a _ _ )))))); any_goals (apply a0k; rfl))
  | ((first | apply a0j [some 12] (hB) ); (focus ((iterate 2 (all_goals (repeat' (first | exact a0e rfl | exact a0c | exact trivial | refine SP ?_ | refine And.intro ?_ ?_ | refine a0b ?_ ?_ | exact a0d rfl rfl | exact a0a _ _ )))))); any_goals (apply a0k; rfl))
  | (apply a0m (Subtype.mk (2 + 1) (by first | omega | (simp only; omega))); (focus (rw [hq1, hsx]; apply a0t [some 0, some 1, some 2, some 3, some 4, some 5, some 6, some 7, some 8, some 9, some 10, some 11, some 12, some 13, some 14, some 15, some 16, some 17, some _]; (focus (iterate 2 (all_goals (repeat' (first | exact a0q | exact a0e rfl | exact a3f rfl rfl rfl rfl rfl rfl rfl rfl | exact a0x rfl | exact a0c | exact trivial | refine SP ?_ | refine And.intro ?_ ?_ | refine a0b ?_ ?_ | refine a0n ?_ | exact a0d rfl rfl | exact a0i rfl rfl rfl | exact a0a _ _ | exact a1j rfl | ((first | show (_ : Nat) = _); first | with_reducible rfl | omega | ((try simp only [wS]); omega) | rfl) | apply a1l | refine a0y ?_ ?_ | exact a2o | with_reducible rfl ))))); any_goals (apply a0h; rfl))); (all_goals (try (first | (simp only; omega)))))
  ))
  ·(repeat' (first
  | refine SP ?_
  | refine a01 (by first | exact beq_self_eq_true _ | decide) ?_
  | refine a0l ?_
  | refine OB ?_
  | ((first | apply a0j [some 13] (hF) ); (focus ((iterate 2 (all_goals (repeat' (first | exact a0e rfl | exact a0c | exact trivial | refine SP ?_ | refine And.intro ?_ ?_ | refine a0b ?_ ?_ | exact a0d rfl rfl | exact a0a _ _ )))))); any_goals (apply a0k; rfl))
  | ((first | apply a0j [some 13] (hB) ); (focus ((iterate 2 (all_goals (repeat' (first | exact a0e rfl | exact a0c | exact trivial | refine SP ?_ | refine And.intro ?_ ?_ | refine a0b ?_ ?_ | exact a0d rfl rfl | exact a0a _ _ )))))); any_goals (apply a0k; rfl))
  | (apply a0m (Subtype.mk (3 + 1) (by first | omega | (simp only; omega))); (focus (rw [hq1, hsx]; apply a0t [some 0, some 1, some 2, some 3, some 4, some 5, some 6, some 7, some 8, some 9, some 10, some 11, some 12, some 13, some 14, some 15, some 16, some 17, some _]; (focus (iterate 2 (all_goals (repeat' (first | exact a0q | exact a0e rfl | exact a3f rfl rfl rfl rfl rfl rfl rfl rfl | exact a0x rfl | exact a0c | exact trivial | refine SP ?_ | refine And.intro ?_ ?_ | refine a0b ?_ ?_ | refine a0n ?_ | exact a0d rfl rfl | exact a0i rfl rfl rfl | exact a0a _ _ | exact a1j rfl | ((first | show (_ : Nat) = _); first | with_reducible rfl | omega | ((try simp only [wS]); omega) | rfl) | apply a1l | refine a0y ?_ ?_ | exact a2o | with_reducible rfl ))))); any_goals (apply a0h; rfl))); (all_goals (try (first | (simp only; omega)))))
  ))
  ·(repeat' (first
  | refine SP ?_
  | refine a01 (by first | exact beq_self_eq_true _ | decide) ?_
  | refine a0l ?_
  | refine OB ?_
  | ((first | apply a0j [some 14] (hF) ); (focus ((iterate 2 (all_goals (repeat' (first | exact a0e rfl | exact a0c | exact trivial | refine SP ?_ | refine And.intro ?_ ?_ | refine a0b ?_ ?_ | exact a0d rfl rfl | exact a0a _ _ )))))); any_goals (apply a0k; rfl))
  | ((first | apply a0j [some 14] (hB) ); (focus ((iterate 2 (all_goals (repeat' (first | exact a0e rfl | exact a0c | exact trivial | refine SP ?_ | refine And.intro ?_ ?_ | refine a0b ?_ ?_ | exact a0d rfl rfl | exact a0a _ _ )))))); any_goals (apply a0k; rfl))
  | (apply a0m (Subtype.mk (4 + 1) (by first | omega | (simp only; omega))); (focus (rw [hq1, hsx]; apply a0t [some 0, some 1, some 2, some 3, some 4, some 5, some 6, some 7, some 8, some 9, some 10, some 11, some 12, some 13, some 14, some 15, some 16, some 17, some _]; (focus (iterate 2 (all_goals (repeat' (first | exact a0q | exact a0e rfl | exact a3f rfl rfl rfl rfl rfl rfl rfl rfl | exact a0x rfl | exact a0c | exact trivial | refine SP ?_ | refine And.intro ?_ ?_ | refine a0b ?_ ?_ | refine a0n ?_ | exact a0d rfl rfl | exact a0i rfl rfl rfl | exact a0a _ _ | exact a1j rfl | ((first | show (_ : Nat) = _); first | with_reducible rfl | omega | ((try simp only [wS]); omega) | rfl) | apply a1l | refine a0y ?_ ?_ | exact a2o | with_reducible rfl ))))); any_goals (apply a0h; rfl))); (all_goals (try (first | (simp only; omega)))))
  ))
  ·(repeat' (first
  | refine SP ?_
  | refine a01 (by first | exact beq_self_eq_true _ | decide) ?_
  | refine a0l ?_
  | refine OB ?_
  | ((first | apply a0j [some 15] (hF) ); (focus ((iterate 2 (all_goals (repeat' (first | exact a0e rfl | exact a0c | exact trivial | refine SP ?_ | refine And.intro ?_ ?_ | refine a0b ?_ ?_ | exact a0d rfl rfl | exact a0a _ _ )))))); any_goals (apply a0k; rfl))
  | ((first | apply a0j [some 15] (hB) ); (focus ((iterate 2 (all_goals (repeat' (first | exact a0e rfl | exact a0c | exact trivial | refine SP ?_ | refine And.intro ?_ ?_ | refine a0b ?_ ?_ | exact a0d rfl rfl | exact a0a _ _ )))))); any_goals (apply a0k; rfl))
  | (apply a0m (Subtype.mk (5 + 1) (by first | omega | (simp only; omega))); (focus (rw [hq1, hsx]; apply a0t [some 0, some 1, some 2, some 3, some 4, some 5, some 6, some 7, some 8, some 9, some 10, some 11, some 12, some 13, some 14, some 15, some 16, some 17, some _]; (focus (iterate 2 (all_goals (repeat' (first | exact a0q | exact a0e rfl | exact a3f rfl rfl rfl rfl rfl rfl rfl rfl | exact a0x rfl | exact a0c | exact trivial | refine SP ?_ | refine And.intro ?_ ?_ | refine a0b ?_ ?_ | refine a0n ?_ | exact a0d rfl rfl | exact a0i rfl rfl rfl | exact a0a _ _ | exact a1j rfl | ((first | show (_ : Nat) = _); first | with_reducible rfl | omega | ((try simp only [wS]); omega) | rfl) | apply a1l | refine a0y ?_ ?_ | exact a2o | with_reducible rfl ))))); any_goals (apply a0h; rfl))); (all_goals (try (first | (simp only; omega)))))
  ))
  ·(repeat' (first
  | refine SP ?_
  | refine a01 (by first | exact beq_self_eq_true _ | decide) ?_
  | refine a0l ?_
  | refine OB ?_
  | ((first | apply a0j [some 16] (hF) ); (focus ((iterate 2 (all_goals (repeat' (first | exact a0e rfl | exact a0c | exact trivial | refine SP ?_ | refine And.intro ?_ ?_ | refine a0b ?_ ?_ | exact a0d rfl rfl | exact a0a _ _ )))))); any_goals (apply a0k; rfl))
  | ((first | apply a0j [some 16] (hB) ); (focus ((iterate 2 (all_goals (repeat' (first | exact a0e rfl | exact a0c | exact trivial | refine SP ?_ | refine And.intro ?_ ?_ | refine a0b ?_ ?_ | exact a0d rfl rfl | exact a0a _ _ )))))); any_goals (apply a0k; rfl))
  | (apply a0m (Subtype.mk (6 + 1) (by first | omega | (simp only; omega))); (focus (rw [hq1, hsx]; apply a0t [some 0, some 1, some 2, some 3, some 4, some 5, some 6, some 7, some 8, some 9, some 10, some 11, some 12, some 13, some 14, some 15, some 16, some 17, some _]; (focus (iterate 2 (all_goals (repeat' (first | exact a0q | exact a0e rfl | exact a3f rfl rfl rfl rfl rfl rfl rfl rfl | exact a0x rfl | exact a0c | exact trivial | refine SP ?_ | refine And.intro ?_ ?_ | refine a0b ?_ ?_ | refine a0n ?_ | exact a0d rfl rfl | exact a0i rfl rfl rfl | exact a0a _ _ | exact a1j rfl | ((first | show (_ : Nat) = _); first | with_reducible rfl | omega | ((try simp only [wS]); omega) | rfl) | apply a1l | refine a0y ?_ ?_ | exact a2o | with_reducible rfl ))))); any_goals (apply a0h; rfl))); (all_goals (try (first | (simp only; omega)))))
  ))
  ·(repeat' (first
  | refine SP ?_
  | refine a01 (by first | exact beq_self_eq_true _ | decide) ?_
  | refine a0l ?_
  | refine OB ?_
  | ((first | apply a0j [some 17] (hF) ); (focus ((iterate 2 (all_goals (repeat' (first | exact a0e rfl | exact a0c | exact trivial | refine SP ?_ | refine And.intro ?_ ?_ | refine a0b ?_ ?_ | exact a0d rfl rfl | exact a0a _ _ )))))); any_goals (apply a0k; rfl))
  | ((first | apply a0j [some 17] (hB) ); (focus ((iterate 2 (all_goals (repeat' (first | exact a0e rfl | exact a0c | exact trivial | refine SP ?_ | refine And.intro ?_ ?_ | refine a0b ?_ ?_ | exact a0d rfl rfl | exact a0a _ _ )))))); any_goals (apply a0k; rfl))
  | (apply a0m (Subtype.mk (7 + 1) (by first | omega | (simp only; omega))); (focus (rw [hq1, hsx]; apply a0t [some 0, some 1, some 2, some 3, some 4, some 5, some 6, some 7, some 8, some 9, some 10, some 11, some 12, some 13, some 14, some 15, some 16, some 17, some _]; (focus (iterate 2 (all_goals (repeat' (first | exact a0q | exact a0e rfl | exact a3f rfl rfl rfl rfl rfl rfl rfl rfl | exact a0x rfl | exact a0c | exact trivial | refine SP ?_ | refine And.intro ?_ ?_ | refine a0b ?_ ?_ | refine a0n ?_ | exact a0d rfl rfl | exact a0i rfl rfl rfl | exact a0a _ _ | exact a1j rfl | ((first | show (_ : Nat) = _); first | with_reducible rfl | omega | ((try simp only [wS]); omega) | rfl) | apply a1l | refine a0y ?_ ?_ | exact a2o | with_reducible rfl ))))); any_goals (apply a0h; rfl))); (all_goals (try (first | (simp only; omega)))))
  ))
 ·obtain rfl : x = 8 := by omega
  generalize hC : b5y (owD c.nd) (bsP c at' 8) = C at *
  generalize hFo : b75 (owD c.nd) (bsP c at' 8) = fo at *
  generalize hBs : bsP c at' 8 = bs at *
  have hCq : ∀ i, i < 8 -> C.getD i 0 = a7t (owD c.nd) bs i := fun i hi => by
   rw [<- hC]; exact hCg _ i (by rw [hbl]; exact hi)
  have hCl : C.length = 8 := by
   rw [<- hC]
   show (b8r (owD c.nd) bs bs.length).length = 8
   rw [a7x, hbl]
  have hCi : ∀ i, i < 8 -> C.getD i 0 = 2 \/ C.getD i 0 = 3 \/ C.getD i 0 = 5 \/ C.getD i 0 = 6 := fun i hi => by
   rw [hCq i hi]; exact c1o _ _ _
  have hCn : ∀ i, i < 8 -> (bs.getD i none).isSome = true \/ C.getD i 0 = 2 \/ C.getD i 0 = 3 := fun i hi => by
   cases hs : (bs.getD i none).isSome
   ·rw [hCq i hi]; exact .inr (c5k hs)
   ·exact .inl rfl
  apply c31
  ·intro key
   (repeat' (first
  | refine SP ?_
  | (apply a0g <;> intro hb <;> (try simp only [nS, nT, eq_self, reduceCtorEq] at hb) <;> (try (exfalso; omega)))
  | refine a0u (by decide +kernel) ?_
  | refine a0l ?_
  | ((first | apply a0j [some 0] (hown) ); (focus ((iterate 2 (all_goals (repeat' (first | exact a0q | exact a0c | exact trivial | refine SP ?_ | refine And.intro ?_ ?_ | refine a0b ?_ ?_ | refine a2j ?_ rfl | exact a0d rfl rfl | exact a0a _ _ | refine a0r ?_ )))); done)); any_goals (apply a0k; rfl))
  | ((first | apply a0j [some 0] (hown') ); (focus ((iterate 2 (all_goals (repeat' (first | exact a0q | exact a0c | exact trivial | refine SP ?_ | refine And.intro ?_ ?_ | refine a0b ?_ ?_ | refine a2j ?_ rfl | exact a0d rfl rfl | exact a0a _ _ )))); done)); any_goals (apply a0k; rfl))
  | ((first | apply a0j [some 18] (hdc) ); (focus ((iterate 2 (all_goals (repeat' (first | exact a0c | exact trivial | refine SP ?_ | refine And.intro ?_ ?_ | refine a0b ?_ ?_ | refine a0o ?_ | exact a0i rfl rfl rfl | exact a0a _ _ | ((first | show (_ : Nat) = _); first | with_reducible rfl | omega | ((try simp only [wS]); omega) | rfl) | with_reducible rfl | refine a0f rfl ?_ ?_ )))))); any_goals (apply a0k; rfl))
  | ((first | apply a0j [some 18] (hms) ); (focus ((iterate 2 (all_goals (repeat' (first | exact a0c | exact trivial | refine SP ?_ | refine And.intro ?_ ?_ | refine a0b ?_ ?_ | refine a0o ?_ | exact a0i rfl rfl rfl | exact a0a _ _ | ((first | show (_ : Nat) = _); first | with_reducible rfl | omega | ((try simp only [wS]); omega) | rfl) | with_reducible rfl | refine a0f rfl ?_ ?_ )))))); any_goals (apply a0k; rfl))
  ))
   ·refine a00 (σ := Nat × Bool) (fun x => x.1 <= 8) (fun x => ⟨[(0, .ptr 0 24 0 0), (1, .val (.int .i64 at')), (7, .sl 18 12 0 8 none), (12, .sl 19 1 0 8 none), (15, .sb x.2), (116, .sl 19 1 0 8 none), (117, .val (.int .i64 8)), (118, .val (.int .i64 x.1))], [b71 c.nd fo at', c3q, stB (bif Nat.blt 0 x.1 then stC (C.getD 0 0) else c.st 0) (c.an 0) (bif Nat.blt 0 x.1 then (if stC (C.getD 0 0) = c.st 0 then c.mrk 0 else at') else c.mrk 0) 10, stB (bif Nat.blt 1 x.1 then stC (C.getD 1 0) else c.st 1) (c.an 1) (bif Nat.blt 1 x.1 then (if stC (C.getD 1 0) = c.st 1 then c.mrk 1 else at') else c.mrk 1) 11, stB (bif Nat.blt 2 x.1 then stC (C.getD 2 0) else c.st 2) (c.an 2) (bif Nat.blt 2 x.1 then (if stC (C.getD 2 0) = c.st 2 then c.mrk 2 else at') else c.mrk 2) 12, stB (bif Nat.blt 3 x.1 then stC (C.getD 3 0) else c.st 3) (c.an 3) (bif Nat.blt 3 x.1 then (if stC (C.getD 3 0) = c.st 3 then c.mrk 3 else at') else c.mrk 3) 13, stB (bif Nat.blt 4 x.1 then stC (C.getD 4 0) else c.st 4) (c.an 4) (bif Nat.blt 4 x.1 then (if stC (C.getD 4 0) = c.st 4 then c.mrk 4 else at') else c.mrk 4) 14, stB (bif Nat.blt 5 x.1 then stC (C.getD 5 0) else c.st 5) (c.an 5) (bif Nat.blt 5 x.1 then (if stC (C.getD 5 0) = c.st 5 then c.mrk 5 else at') else c.mrk 5) 15, stB (bif Nat.blt 6 x.1 then stC (C.getD 6 0) else c.st 6) (c.an 6) (bif Nat.blt 6 x.1 then (if stC (C.getD 6 0) = c.st 6 then c.mrk 6 else at') else c.mrk 6) 16, stB (bif Nat.blt 7 x.1 then stC (C.getD 7 0) else c.st 7) (c.an 7) (bif Nat.blt 7 x.1 then (if stC (C.getD 7 0) = c.st 7 then c.mrk 7 else at') else c.mrk 7) 17, .obj (a3j (c.rl 0) (fgF (c.rl 0) at' (c.rc 0))), .obj (a3j (c.rl 1) (fgF (c.rl 1) at' (c.rc 1))), .obj (a3j (c.rl 2) (fgF (c.rl 2) at' (c.rc 2))), .obj (a3j (c.rl 3) (fgF (c.rl 3) at' (c.rc 3))), .obj (a3j (c.rl 4) (fgF (c.rl 4) at' (c.rc 4))), .obj (a3j (c.rl 5) (fgF (c.rl 5) at' (c.rc 5))), .obj (a3j (c.rl 6) (fgF (c.rl 6) at' (c.rc 6))), .obj (a3j (c.rl 7) (fgF (c.rl 7) at' (c.rc 7))), .arr true 151 12 8 (a2x pbC none bs), .arr true 3 1 8 (a2x a78 0 C)]⟩) (fun x => 8 - x.1) (0, true) (by simp) ?_ key.out
    (apply a0t [some 0, some 1, some 2, some 3, some 4, some 5, some 6, some 7, some 8, some 9, some 10, some 11, some 12, some 13, some 14, some 15, some 16, some 17, some 18, some 19]; (focus (iterate 2 (all_goals (repeat' (first | exact a0q | exact a0e rfl | exact a3f rfl rfl rfl rfl rfl rfl rfl rfl | exact a0x rfl | exact a0c | exact trivial | refine SP ?_ | refine And.intro ?_ ?_ | refine a0b ?_ ?_ | refine a0n ?_ | exact a0d rfl rfl | exact a0i rfl rfl rfl | exact a0a _ _ | exact a1b rfl | exact a0f rfl rfl rfl | ((first | show (_ : Nat) = _); first | with_reducible rfl | omega | ((try simp only [wS]); omega) | rfl) | with_reducible rfl | refine a06 rfl ?_ ?_))))); any_goals (apply a0h; rfl))
   all_goals
    refine a00 (σ := Nat × Bool) (fun x => x.1 <= 8) (fun x => ⟨[(0, .ptr 0 24 0 0), (1, .val (.int .i64 at')), (7, .sl 18 12 0 8 none), (12, .sl 19 1 0 8 none), (15, .sb x.2), (116, .sl 19 1 0 8 none), (117, .val (.int .i64 8)), (118, .val (.int .i64 x.1))], [b71 c.nd fo at', c3q, stB (bif Nat.blt 0 x.1 then stC (C.getD 0 0) else c.st 0) (c.an 0) (bif Nat.blt 0 x.1 then (if stC (C.getD 0 0) = c.st 0 then c.mrk 0 else at') else c.mrk 0) 10, stB (bif Nat.blt 1 x.1 then stC (C.getD 1 0) else c.st 1) (c.an 1) (bif Nat.blt 1 x.1 then (if stC (C.getD 1 0) = c.st 1 then c.mrk 1 else at') else c.mrk 1) 11, stB (bif Nat.blt 2 x.1 then stC (C.getD 2 0) else c.st 2) (c.an 2) (bif Nat.blt 2 x.1 then (if stC (C.getD 2 0) = c.st 2 then c.mrk 2 else at') else c.mrk 2) 12, stB (bif Nat.blt 3 x.1 then stC (C.getD 3 0) else c.st 3) (c.an 3) (bif Nat.blt 3 x.1 then (if stC (C.getD 3 0) = c.st 3 then c.mrk 3 else at') else c.mrk 3) 13, stB (bif Nat.blt 4 x.1 then stC (C.getD 4 0) else c.st 4) (c.an 4) (bif Nat.blt 4 x.1 then (if stC (C.getD 4 0) = c.st 4 then c.mrk 4 else at') else c.mrk 4) 14, stB (bif Nat.blt 5 x.1 then stC (C.getD 5 0) else c.st 5) (c.an 5) (bif Nat.blt 5 x.1 then (if stC (C.getD 5 0) = c.st 5 then c.mrk 5 else at') else c.mrk 5) 15, stB (bif Nat.blt 6 x.1 then stC (C.getD 6 0) else c.st 6) (c.an 6) (bif Nat.blt 6 x.1 then (if stC (C.getD 6 0) = c.st 6 then c.mrk 6 else at') else c.mrk 6) 16, stB (bif Nat.blt 7 x.1 then stC (C.getD 7 0) else c.st 7) (c.an 7) (bif Nat.blt 7 x.1 then (if stC (C.getD 7 0) = c.st 7 then c.mrk 7 else at') else c.mrk 7) 17, .obj (a3j (c.rl 0) (fgF (c.rl 0) at' (c.rc 0))), .obj (a3j (c.rl 1) (fgF (c.rl 1) at' (c.rc 1))), .obj (a3j (c.rl 2) (fgF (c.rl 2) at' (c.rc 2))), .obj (a3j (c.rl 3) (fgF (c.rl 3) at' (c.rc 3))), .obj (a3j (c.rl 4) (fgF (c.rl 4) at' (c.rc 4))), .obj (a3j (c.rl 5) (fgF (c.rl 5) at' (c.rc 5))), .obj (a3j (c.rl 6) (fgF (c.rl 6) at' (c.rc 6))), .obj (a3j (c.rl 7) (fgF (c.rl 7) at' (c.rc 7))), .arr true 151 12 8 (a2x pbC none bs), .arr true 3 1 8 (a2x a78 0 C)]⟩) (fun x => 8 - x.1) (0, false) (by simp) ?_ key.out
    (apply a0t [some 0, some 1, some 2, some 3, some 4, some 5, some 6, some 7, some 8, some 9, some 10, some 11, some 12, some 13, some 14, some 15, some 16, some 17, some 18, some 19]; (focus (iterate 2 (all_goals (repeat' (first | exact a0q | exact a0e rfl | exact a3f rfl rfl rfl rfl rfl rfl rfl rfl | exact a0x rfl | exact a0c | exact trivial | refine SP ?_ | refine And.intro ?_ ?_ | refine a0b ?_ ?_ | refine a0n ?_ | exact a0d rfl rfl | exact a0i rfl rfl rfl | exact a0a _ _ | exact a1b rfl | exact a0f rfl rfl rfl | ((first | show (_ : Nat) = _); first | with_reducible rfl | omega | ((try simp only [wS]); omega) | rfl) | with_reducible rfl | refine a06 rfl ?_ ?_))))); any_goals (apply a0h; rfl))
  clear hdc hms hown hown' hw hbw hFo hBs
  rintro ⟨x, sm⟩ hx
  have hx : x <= 8 := hx
  by_cases hxl : x < 8
  ·have hD := b8c (a3j (c.rl x) (fgF (c.rl x) at' (c.rc x))) (c.st x) (c.an x) (c.mrk x) at' (C.getD x 0) (bs.getD x none).isSome sm ⟨(h.mrk x hxl).1, by have := (h.mrk x hxl).2; have := h.at0.2; omega, h.at0⟩ (h.st x hxl) (hCi x hxl) (hCn x hxl)
   clear h hCi hCn hC hCg hCq
   cases sm
   all_goals rcases lt8 hxl with rfl | rfl | rfl | rfl | rfl | rfl | rfl | rfl
   ·(repeat' (first
  | refine SP ?_
  | refine a01 (by first | exact beq_self_eq_true _ | decide) ?_
  | refine a05 (by decide) ?_
  | (apply a0g <;> intro hb <;> (try simp only [nS, nT, eq_self, reduceCtorEq] at hb) <;> (try (exfalso; fail; done)))
  | refine a0u (by decide +kernel) ?_
  | refine a0l ?_
  | refine OB ?_
  | ((first | apply a0s [some 2, some 10] (hD)); (focus ((iterate 2 (all_goals (repeat' (first | exact a0q | exact a0e rfl | exact hb.symm | exact a0c | exact trivial | refine SP ?_ | refine And.intro ?_ ?_ | refine a0b ?_ ?_ | refine a0n ?_ | exact a0d rfl rfl | exact a0a _ _ | exact a1b rfl | refine a1b ?_ )))))); (any_goals (first | (apply a0v; rfl) )))
  | ((first | apply a0j [] (hex) ); (focus ((iterate 2 (all_goals (repeat' (first | exact a0c | exact trivial | refine And.intro ?_ ?_ | refine a0b ?_ ?_ | exact a0a _ _ )))))); any_goals (apply a0k; rfl))
  | (apply a0m (Subtype.mk (0 + 1, false) (by first | omega | (simp only; omega))); (focus (skip; apply a0t [some 0, some 1, some 2, some 3, some 4, some 5, some 6, some 7, some 8, some 9, some 10, some 11, some 12, some 13, some 14, some 15, some 16, some 17, some 18, some 19]; (focus (iterate 2 (all_goals (repeat' (first | exact a0q | exact a0e rfl | exact a3f rfl rfl rfl rfl rfl rfl rfl rfl | exact a0x rfl | exact a0c | exact trivial | refine SP ?_ | refine And.intro ?_ ?_ | refine a0b ?_ ?_ | refine a0n ?_ | exact a0d rfl rfl | exact a0i rfl rfl rfl | exact a0a _ _ | exact a1j rfl | exact a0f rfl rfl rfl ))))); any_goals (apply a0h; rfl))); (all_goals (try (first | (simp only; omega)))))
  ))
   ·(repeat' (first
  | refine SP ?_
  | refine a01 (by first | exact beq_self_eq_true _ | decide) ?_
  | refine a05 (by decide) ?_
  | (apply a0g <;> intro hb <;> (try simp only [nS, nT, eq_self, reduceCtorEq] at hb) <;> (try (exfalso; fail; done)))
  | refine a0u (by decide +kernel) ?_
  | refine a0l ?_
  | refine OB ?_
  | ((first | apply a0s [some 3, some 11] (hD)); (focus ((iterate 2 (all_goals (repeat' (first | exact a0q | exact a0e rfl | exact hb.symm | exact a0c | exact trivial | refine SP ?_ | refine And.intro ?_ ?_ | refine a0b ?_ ?_ | refine a0n ?_ | exact a0d rfl rfl | exact a0a _ _ | exact a1b rfl | refine a1b ?_ )))))); (any_goals (first | (apply a0v; rfl) )))
  | ((first | apply a0j [] (hex) ); (focus ((iterate 2 (all_goals (repeat' (first | exact a0c | exact trivial | refine And.intro ?_ ?_ | refine a0b ?_ ?_ | exact a0a _ _ )))))); any_goals (apply a0k; rfl))
  | (apply a0m (Subtype.mk (1 + 1, false) (by first | omega | (simp only; omega))); (focus (skip; apply a0t [some 0, some 1, some 2, some 3, some 4, some 5, some 6, some 7, some 8, some 9, some 10, some 11, some 12, some 13, some 14, some 15, some 16, some 17, some 18, some 19]; (focus (iterate 2 (all_goals (repeat' (first | exact a0q | exact a0e rfl | exact a3f rfl rfl rfl rfl rfl rfl rfl rfl | exact a0x rfl | exact a0c | exact trivial | refine SP ?_ | refine And.intro ?_ ?_ | refine a0b ?_ ?_ | refine a0n ?_ | exact a0d rfl rfl | exact a0i rfl rfl rfl | exact a0a _ _ | exact a1j rfl | exact a0f rfl rfl rfl ))))); any_goals (apply a0h; rfl))); (all_goals (try (first | (simp only; omega)))))
  ))
   ·(repeat' (first
  | refine SP ?_
  | refine a01 (by first | exact beq_self_eq_true _ | decide) ?_
  | refine a05 (by decide) ?_
  | (apply a0g <;> intro hb <;> (try simp only [nS, nT, eq_self, reduceCtorEq] at hb) <;> (try (exfalso; fail; done)))
  | refine a0u (by decide +kernel) ?_
  | refine a0l ?_
  | refine OB ?_
  | ((first | apply a0s [some 4, some 12] (hD)); (focus ((iterate 2 (all_goals (repeat' (first | exact a0q | exact a0e rfl | exact hb.symm | exact a0c | exact trivial | refine SP ?_ | refine And.intro ?_ ?_ | refine a0b ?_ ?_ | refine a0n ?_ | exact a0d rfl rfl | exact a0a _ _ | exact a1b rfl | refine a1b ?_ )))))); (any_goals (first | (apply a0v; rfl) )))
  | ((first | apply a0j [] (hex) ); (focus ((iterate 2 (all_goals (repeat' (first | exact a0c | exact trivial | refine And.intro ?_ ?_ | refine a0b ?_ ?_ | exact a0a _ _ )))))); any_goals (apply a0k; rfl))
  | (apply a0m (Subtype.mk (2 + 1, false) (by first | omega | (simp only; omega))); (focus (skip; apply a0t [some 0, some 1, some 2, some 3, some 4, some 5, some 6, some 7, some 8, some 9, some 10, some 11, some 12, some 13, some 14, some 15, some 16, some 17, some 18, some 19]; (focus (iterate 2 (all_goals (repeat' (first | exact a0q | exact a0e rfl | exact a3f rfl rfl rfl rfl rfl rfl rfl rfl | exact a0x rfl | exact a0c | exact trivial | refine SP ?_ | refine And.intro ?_ ?_ | refine a0b ?_ ?_ | refine a0n ?_ | exact a0d rfl rfl | exact a0i rfl rfl rfl | exact a0a _ _ | exact a1j rfl | exact a0f rfl rfl rfl ))))); any_goals (apply a0h; rfl))); (all_goals (try (first | (simp only; omega)))))
  ))
   ·(repeat' (first
  | refine SP ?_
  | refine a01 (by first | exact beq_self_eq_true _ | decide) ?_
  | refine a05 (by decide) ?_
  | (apply a0g <;> intro hb <;> (try simp only [nS, nT, eq_self, reduceCtorEq] at hb) <;> (try (exfalso; fail; done)))
  | refine a0u (by decide +kernel) ?_
  | refine a0l ?_
  | refine OB ?_
  | ((first | apply a0s [some 5, some 13] (hD)); (focus ((iterate 2 (all_goals (repeat' (first | exact a0q | exact a0e rfl | exact hb.symm | exact a0c | exact trivial | refine SP ?_ | refine And.intro ?_ ?_ | refine a0b ?_ ?_ | refine a0n ?_ | exact a0d rfl rfl | exact a0a _ _ | exact a1b rfl | refine a1b ?_ )))))); (any_goals (first | (apply a0v; rfl) )))
  | ((first | apply a0j [] (hex) ); (focus ((iterate 2 (all_goals (repeat' (first | exact a0c | exact trivial | refine And.intro ?_ ?_ | refine a0b ?_ ?_ | exact a0a _ _ )))))); any_goals (apply a0k; rfl))
  | (apply a0m (Subtype.mk (3 + 1, false) (by first | omega | (simp only; omega))); (focus (skip; apply a0t [some 0, some 1, some 2, some 3, some 4, some 5, some 6, some 7, some 8, some 9, some 10, some 11, some 12, some 13, some 14, some 15, some 16, some 17, some 18, some 19]; (focus (iterate 2 (all_goals (repeat' (first | exact a0q | exact a0e rfl | exact a3f rfl rfl rfl rfl rfl rfl rfl rfl | exact a0x rfl | exact a0c | exact trivial | refine SP ?_ | refine And.intro ?_ ?_ | refine a0b ?_ ?_ | refine a0n ?_ | exact a0d rfl rfl | exact a0i rfl rfl rfl | exact a0a _ _ | exact a1j rfl | exact a0f rfl rfl rfl ))))); any_goals (apply a0h; rfl))); (all_goals (try (first | (simp only; omega)))))
  ))
   ·(repeat' (first
  | refine SP ?_
  | refine a01 (by first | exact beq_self_eq_true _ | decide) ?_
  | refine a05 (by decide) ?_
  | (apply a0g <;> intro hb <;> (try simp only [nS, nT, eq_self, reduceCtorEq] at hb) <;> (try (exfalso; fail; done)))
  | refine a0u (by decide +kernel) ?_
  | refine a0l ?_
  | refine OB ?_
  | ((first | apply a0s [some 6, some 14] (hD)); (focus ((iterate 2 (all_goals (repeat' (first | exact a0q | exact a0e rfl | exact hb.symm | exact a0c | exact trivial | refine SP ?_ | refine And.intro ?_ ?_ | refine a0b ?_ ?_ | refine a0n ?_ | exact a0d rfl rfl | exact a0a _ _ | exact a1b rfl | refine a1b ?_ )))))); (any_goals (first | (apply a0v; rfl) )))
  | ((first | apply a0j [] (hex) ); (focus ((iterate 2 (all_goals (repeat' (first | exact a0c | exact trivial | refine And.intro ?_ ?_ | refine a0b ?_ ?_ | exact a0a _ _ )))))); any_goals (apply a0k; rfl))
  | (apply a0m (Subtype.mk (4 + 1, false) (by first | omega | (simp only; omega))); (focus (skip; apply a0t [some 0, some 1, some 2, some 3, some 4, some 5, some 6, some 7, some 8, some 9, some 10, some 11, some 12, some 13, some 14, some 15, some 16, some 17, some 18, some 19]; (focus (iterate 2 (all_goals (repeat' (first | exact a0q | exact a0e rfl | exact a3f rfl rfl rfl rfl rfl rfl rfl rfl | exact a0x rfl | exact a0c | exact trivial | refine SP ?_ | refine And.intro ?_ ?_ | refine a0b ?_ ?_ | refine a0n ?_ | exact a0d rfl rfl | exact a0i rfl rfl rfl | exact a0a _ _ | exact a1j rfl | exact a0f rfl rfl rfl ))))); any_goals (apply a0h; rfl))); (all_goals (try (first | (simp only; omega)))))
  ))
   ·(repeat' (first
  | refine SP ?_
  | refine a01 (by first | exact beq_self_eq_true _ | decide) ?_
  | refine a05 (by decide) ?_
  | (apply a0g <;> intro hb <;> (try simp only [nS, nT, eq_self, reduceCtorEq] at hb) <;> (try (exfalso; fail; done)))
  | refine a0u (by decide +kernel) ?_
  | refine a0l ?_
  | refine OB ?_
  | ((first | apply a0s [some 7, some 15] (hD)); (focus ((iterate 2 (all_goals (repeat' (first | exact a0q | exact a0e rfl | exact hb.symm | exact a0c | exact trivial | refine SP ?_ | refine And.intro ?_ ?_ | refine a0b ?_ ?_ | refine a0n ?_ | exact a0d rfl rfl | exact a0a _ _ | exact a1b rfl | refine a1b ?_ )))))); (any_goals (first | (apply a0v; rfl) )))
  | ((first | apply a0j [] (hex) ); (focus ((iterate 2 (all_goals (repeat' (first | exact a0c | exact trivial | refine And.intro ?_ ?_ | refine a0b ?_ ?_ | exact a0a _ _ )))))); any_goals (apply a0k; rfl))
  | (apply a0m (Subtype.mk (5 + 1, false) (by first | omega | (simp only; omega))); (focus (skip; apply a0t [some 0, some 1, some 2, some 3, some 4, some 5, some 6, some 7, some 8, some 9, some 10, some 11, some 12, some 13, some 14, some 15, some 16, some 17, some 18, some 19]; (focus (iterate 2 (all_goals (repeat' (first | exact a0q | exact a0e rfl | exact a3f rfl rfl rfl rfl rfl rfl rfl rfl | exact a0x rfl | exact a0c | exact trivial | refine SP ?_ | refine And.intro ?_ ?_ | refine a0b ?_ ?_ | refine a0n ?_ | exact a0d rfl rfl | exact a0i rfl rfl rfl | exact a0a _ _ | exact a1j rfl | exact a0f rfl rfl rfl ))))); any_goals (apply a0h; rfl))); (all_goals (try (first | (simp only; omega)))))
  ))
   ·(repeat' (first
  | refine SP ?_
  | refine a01 (by first | exact beq_self_eq_true _ | decide) ?_
  | refine a05 (by decide) ?_
  | (apply a0g <;> intro hb <;> (try simp only [nS, nT, eq_self, reduceCtorEq] at hb) <;> (try (exfalso; fail; done)))
  | refine a0u (by decide +kernel) ?_
  | refine a0l ?_
  | refine OB ?_
  | ((first | apply a0s [some 8, some 16] (hD)); (focus ((iterate 2 (all_goals (repeat' (first | exact a0q | exact a0e rfl | exact hb.symm | exact a0c | exact trivial | refine SP ?_ | refine And.intro ?_ ?_ | refine a0b ?_ ?_ | refine a0n ?_ | exact a0d rfl rfl | exact a0a _ _ | exact a1b rfl | refine a1b ?_ )))))); (any_goals (first | (apply a0v; rfl) )))
  | ((first | apply a0j [] (hex) ); (focus ((iterate 2 (all_goals (repeat' (first | exact a0c | exact trivial | refine And.intro ?_ ?_ | refine a0b ?_ ?_ | exact a0a _ _ )))))); any_goals (apply a0k; rfl))
  | (apply a0m (Subtype.mk (6 + 1, false) (by first | omega | (simp only; omega))); (focus (skip; apply a0t [some 0, some 1, some 2, some 3, some 4, some 5, some 6, some 7, some 8, some 9, some 10, some 11, some 12, some 13, some 14, some 15, some 16, some 17, some 18, some 19]; (focus (iterate 2 (all_goals (repeat' (first | exact a0q | exact a0e rfl | exact a3f rfl rfl rfl rfl rfl rfl rfl rfl | exact a0x rfl | exact a0c | exact trivial | refine SP ?_ | refine And.intro ?_ ?_ | refine a0b ?_ ?_ | refine a0n ?_ | exact a0d rfl rfl | exact a0i rfl rfl rfl | exact a0a _ _ | exact a1j rfl | exact a0f rfl rfl rfl ))))); any_goals (apply a0h; rfl))); (all_goals (try (first | (simp only; omega)))))
  ))
   ·(repeat' (first
  | refine SP ?_
  | refine a01 (by first | exact beq_self_eq_true _ | decide) ?_
  | refine a05 (by decide) ?_
  | (apply a0g <;> intro hb <;> (try simp only [nS, nT, eq_self, reduceCtorEq] at hb) <;> (try (exfalso; fail; done)))
  | refine a0u (by decide +kernel) ?_
  | refine a0l ?_
  | refine OB ?_
  | ((first | apply a0s [some 9, some 17] (hD)); (focus ((iterate 2 (all_goals (repeat' (first | exact a0q | exact a0e rfl | exact hb.symm | exact a0c | exact trivial | refine SP ?_ | refine And.intro ?_ ?_ | refine a0b ?_ ?_ | refine a0n ?_ | exact a0d rfl rfl | exact a0a _ _ | exact a1b rfl | refine a1b ?_ )))))); (any_goals (first | (apply a0v; rfl) )))
  | ((first | apply a0j [] (hex) ); (focus ((iterate 2 (all_goals (repeat' (first | exact a0c | exact trivial | refine And.intro ?_ ?_ | refine a0b ?_ ?_ | exact a0a _ _ )))))); any_goals (apply a0k; rfl))
  | (apply a0m (Subtype.mk (7 + 1, false) (by first | omega | (simp only; omega))); (focus (skip; apply a0t [some 0, some 1, some 2, some 3, some 4, some 5, some 6, some 7, some 8, some 9, some 10, some 11, some 12, some 13, some 14, some 15, some 16, some 17, some 18, some 19]; (focus (iterate 2 (all_goals (repeat' (first | exact a0q | exact a0e rfl | exact a3f rfl rfl rfl rfl rfl rfl rfl rfl | exact a0x rfl | exact a0c | exact trivial | refine SP ?_ | refine And.intro ?_ ?_ | refine a0b ?_ ?_ | refine a0n ?_ | exact a0d rfl rfl | exact a0i rfl rfl rfl | exact a0a _ _ | exact a1j rfl | exact a0f rfl rfl rfl ))))); any_goals (apply a0h; rfl))); (all_goals (try (first | (simp only; omega)))))
  ))
   ·(repeat' (first
  | refine SP ?_
  | refine a01 (by first | exact beq_self_eq_true _ | decide) ?_
  | refine a05 (by decide) ?_
  | (apply a0g <;> intro hb <;> (try simp only [nS, nT, eq_self, reduceCtorEq] at hb) <;> (try (exfalso; fail; done)))
  | refine a0u (by decide +kernel) ?_
  | refine a0l ?_
  | refine OB ?_
  | ((first | apply a0s [some 2, some 10] (hD)); (focus ((iterate 2 (all_goals (repeat' (first | exact a0q | exact a0e rfl | exact hb.symm | exact a0c | exact trivial | refine SP ?_ | refine And.intro ?_ ?_ | refine a0b ?_ ?_ | refine a0n ?_ | exact a0d rfl rfl | exact a0a _ _ | exact a1b rfl | refine a1b ?_ )))))); (any_goals (first | (apply a0v; rfl) )))
  | (apply a0m (Subtype.mk (0 + 1, true) (by first | omega | (simp only; omega))); (focus (skip; apply a0t [some 0, some 1, some 2, some 3, some 4, some 5, some 6, some 7, some 8, some 9, some 10, some 11, some 12, some 13, some 14, some 15, some 16, some 17, some 18, some 19]; (focus (iterate 2 (all_goals (repeat' (first | exact a0q | exact a0e rfl | exact a3f rfl rfl rfl rfl rfl rfl rfl rfl | exact a0x rfl | exact a0c | exact trivial | refine SP ?_ | refine And.intro ?_ ?_ | refine a0b ?_ ?_ | refine a0n ?_ | exact a0d rfl rfl | exact a0i rfl rfl rfl | exact a0a _ _ | exact a1j rfl | exact a0f rfl rfl rfl ))))); any_goals (apply a0h; rfl))); (all_goals (try (first | (simp only; omega)))))
  ))
   ·(repeat' (first
  | refine SP ?_
  | refine a01 (by first | exact beq_self_eq_true _ | decide) ?_
  | refine a05 (by decide) ?_
  | (apply a0g <;> intro hb <;> (try simp only [nS, nT, eq_self, reduceCtorEq] at hb) <;> (try (exfalso; fail; done)))
  | refine a0u (by decide +kernel) ?_
  | refine a0l ?_
  | refine OB ?_
  | ((first | apply a0s [some 3, some 11] (hD)); (focus ((iterate 2 (all_goals (repeat' (first | exact a0q | exact a0e rfl | exact hb.symm | exact a0c | exact trivial | refine SP ?_ | refine And.intro ?_ ?_ | refine a0b ?_ ?_ | refine a0n ?_ | exact a0d rfl rfl | exact a0a _ _ | exact a1b rfl | refine a1b ?_ )))))); (any_goals (first | (apply a0v; rfl) )))
  | (apply a0m (Subtype.mk (1 + 1, true) (by first | omega | (simp only; omega))); (focus (skip; apply a0t [some 0, some 1, some 2, some 3, some 4, some 5, some 6, some 7, some 8, some 9, some 10, some 11, some 12, some 13, some 14, some 15, some 16, some 17, some 18, some 19]; (focus (iterate 2 (all_goals (repeat' (first | exact a0q | exact a0e rfl | exact a3f rfl rfl rfl rfl rfl rfl rfl rfl | exact a0x rfl | exact a0c | exact trivial | refine SP ?_ | refine And.intro ?_ ?_ | refine a0b ?_ ?_ | refine a0n ?_ | exact a0d rfl rfl | exact a0i rfl rfl rfl | exact a0a _ _ | exact a1j rfl | exact a0f rfl rfl rfl ))))); any_goals (apply a0h; rfl))); (all_goals (try (first | (simp only; omega)))))
  ))
   ·(repeat' (first
  | refine SP ?_
  | refine a01 (by first | exact beq_self_eq_true _ | decide) ?_
  | refine a05 (by decide) ?_
  | (apply a0g <;> intro hb <;> (try simp only [nS, nT, eq_self, reduceCtorEq] at hb) <;> (try (exfalso; fail; done)))
  | refine a0u (by decide +kernel) ?_
  | refine a0l ?_
  | refine OB ?_
  | ((first | apply a0s [some 4, some 12] (hD)); (focus ((iterate 2 (all_goals (repeat' (first | exact a0q | exact a0e rfl | exact hb.symm | exact a0c | exact trivial | refine SP ?_ | refine And.intro ?_ ?_ | refine a0b ?_ ?_ | refine a0n ?_ | exact a0d rfl rfl | exact a0a _ _ | exact a1b rfl | refine a1b ?_ )))))); (any_goals (first | (apply a0v; rfl) )))
  | (apply a0m (Subtype.mk (2 + 1, true) (by first | omega | (simp only; omega))); (focus (skip; apply a0t [some 0, some 1, some 2, some 3, some 4, some 5, some 6, some 7, some 8, some 9, some 10, some 11, some 12, some 13, some 14, some 15, some 16, some 17, some 18, some 19]; (focus (iterate 2 (all_goals (repeat' (first | exact a0q | exact a0e rfl | exact a3f rfl rfl rfl rfl rfl rfl rfl rfl | exact a0x rfl | exact a0c | exact trivial | refine SP ?_ | refine And.intro ?_ ?_ | refine a0b ?_ ?_ | refine a0n ?_ | exact a0d rfl rfl | exact a0i rfl rfl rfl | exact a0a _ _ | exact a1j rfl | exact a0f rfl rfl rfl ))))); any_goals (apply a0h; rfl))); (all_goals (try (first | (simp only; omega)))))
  ))
   ·(repeat' (first
  | refine SP ?_
  | refine a01 (by first | exact beq_self_eq_true _ | decide) ?_
  | refine a05 (by decide) ?_
  | (apply a0g <;> intro hb <;> (try simp only [nS, nT, eq_self, reduceCtorEq] at hb) <;> (try (exfalso; fail; done)))
  | refine a0u (by decide +kernel) ?_
  | refine a0l ?_
  | refine OB ?_
  | ((first | apply a0s [some 5, some 13] (hD)); (focus ((iterate 2 (all_goals (repeat' (first | exact a0q | exact a0e rfl | exact hb.symm | exact a0c | exact trivial | refine SP ?_ | refine And.intro ?_ ?_ | refine a0b ?_ ?_ | refine a0n ?_ | exact a0d rfl rfl | exact a0a _ _ | exact a1b rfl | refine a1b ?_ )))))); (any_goals (first | (apply a0v; rfl) )))
  | (apply a0m (Subtype.mk (3 + 1, true) (by first | omega | (simp only; omega))); (focus (skip; apply a0t [some 0, some 1, some 2, some 3, some 4, some 5, some 6, some 7, some 8, some 9, some 10, some 11, some 12, some 13, some 14, some 15, some 16, some 17, some 18, some 19]; (focus (iterate 2 (all_goals (repeat' (first | exact a0q | exact a0e rfl | exact a3f rfl rfl rfl rfl rfl rfl rfl rfl | exact a0x rfl | exact a0c | exact trivial | refine SP ?_ | refine And.intro ?_ ?_ | refine a0b ?_ ?_ | refine a0n ?_ | exact a0d rfl rfl | exact a0i rfl rfl rfl | exact a0a _ _ | exact a1j rfl | exact a0f rfl rfl rfl ))))); any_goals (apply a0h; rfl))); (all_goals (try (first | (simp only; omega)))))
  ))
   ·(repeat' (first
  | refine SP ?_
  | refine a01 (by first | exact beq_self_eq_true _ | decide) ?_
  | refine a05 (by decide) ?_
  | (apply a0g <;> intro hb <;> (try simp only [nS, nT, eq_self, reduceCtorEq] at hb) <;> (try (exfalso; fail; done)))
  | refine a0u (by decide +kernel) ?_
  | refine a0l ?_
  | refine OB ?_
  | ((first | apply a0s [some 6, some 14] (hD)); (focus ((iterate 2 (all_goals (repeat' (first | exact a0q | exact a0e rfl | exact hb.symm | exact a0c | exact trivial | refine SP ?_ | refine And.intro ?_ ?_ | refine a0b ?_ ?_ | refine a0n ?_ | exact a0d rfl rfl | exact a0a _ _ | exact a1b rfl | refine a1b ?_ )))))); (any_goals (first | (apply a0v; rfl) )))
  | (apply a0m (Subtype.mk (4 + 1, true) (by first | omega | (simp only; omega))); (focus (skip; apply a0t [some 0, some 1, some 2, some 3, some 4, some 5, some 6, some 7, some 8, some 9, some 10, some 11, some 12, some 13, some 14, some 15, some 16, some 17, some 18, some 19]; (focus (iterate 2 (all_goals (repeat' (first | exact a0q | exact a0e rfl | exact a3f rfl rfl rfl rfl rfl rfl rfl rfl | exact a0x rfl | exact a0c | exact trivial | refine SP ?_ | refine And.intro ?_ ?_ | refine a0b ?_ ?_ | refine a0n ?_ | exact a0d rfl rfl | exact a0i rfl rfl rfl | exact a0a _ _ | exact a1j rfl | exact a0f rfl rfl rfl ))))); any_goals (apply a0h; rfl))); (all_goals (try (first | (simp only; omega)))))
  ))
   ·(repeat' (first
  | refine SP ?_
  | refine a01 (by first | exact beq_self_eq_true _ | decide) ?_
  | refine a05 (by decide) ?_
  | (apply a0g <;> intro hb <;> (try simp only [nS, nT, eq_self, reduceCtorEq] at hb) <;> (try (exfalso; fail; done)))
  | refine a0u (by decide +kernel) ?_
  | refine a0l ?_
  | refine OB ?_
  | ((first | apply a0s [some 7, some 15] (hD)); (focus ((iterate 2 (all_goals (repeat' (first | exact a0q | exact a0e rfl | exact hb.symm | exact a0c | exact trivial | refine SP ?_ | refine And.intro ?_ ?_ | refine a0b ?_ ?_ | refine a0n ?_ | exact a0d rfl rfl | exact a0a _ _ | exact a1b rfl | refine a1b ?_ )))))); (any_goals (first | (apply a0v; rfl) )))
  | (apply a0m (Subtype.mk (5 + 1, true) (by first | omega | (simp only; omega))); (focus (skip; apply a0t [some 0, some 1, some 2, some 3, some 4, some 5, some 6, some 7, some 8, some 9, some 10, some 11, some 12, some 13, some 14, some 15, some 16, some 17, some 18, some 19]; (focus (iterate 2 (all_goals (repeat' (first | exact a0q | exact a0e rfl | exact a3f rfl rfl rfl rfl rfl rfl rfl rfl | exact a0x rfl | exact a0c | exact trivial | refine SP ?_ | refine And.intro ?_ ?_ | refine a0b ?_ ?_ | refine a0n ?_ | exact a0d rfl rfl | exact a0i rfl rfl rfl | exact a0a _ _ | exact a1j rfl | exact a0f rfl rfl rfl ))))); any_goals (apply a0h; rfl))); (all_goals (try (first | (simp only; omega)))))
  ))
   ·(repeat' (first
  | refine SP ?_
  | refine a01 (by first | exact beq_self_eq_true _ | decide) ?_
  | refine a05 (by decide) ?_
  | (apply a0g <;> intro hb <;> (try simp only [nS, nT, eq_self, reduceCtorEq] at hb) <;> (try (exfalso; fail; done)))
  | refine a0u (by decide +kernel) ?_
  | refine a0l ?_
  | refine OB ?_
  | ((first | apply a0s [some 8, some 16] (hD)); (focus ((iterate 2 (all_goals (repeat' (first | exact a0q | exact a0e rfl | exact hb.symm | exact a0c | exact trivial | refine SP ?_ | refine And.intro ?_ ?_ | refine a0b ?_ ?_ | refine a0n ?_ | exact a0d rfl rfl | exact a0a _ _ | exact a1b rfl | refine a1b ?_ )))))); (any_goals (first | (apply a0v; rfl) )))
  | (apply a0m (Subtype.mk (6 + 1, true) (by first | omega | (simp only; omega))); (focus (skip; apply a0t [some 0, some 1, some 2, some 3, some 4, some 5, some 6, some 7, some 8, some 9, some 10, some 11, some 12, some 13, some 14, some 15, some 16, some 17, some 18, some 19]; (focus (iterate 2 (all_goals (repeat' (first | exact a0q | exact a0e rfl | exact a3f rfl rfl rfl rfl rfl rfl rfl rfl | exact a0x rfl | exact a0c | exact trivial | refine SP ?_ | refine And.intro ?_ ?_ | refine a0b ?_ ?_ | refine a0n ?_ | exact a0d rfl rfl | exact a0i rfl rfl rfl | exact a0a _ _ | exact a1j rfl | exact a0f rfl rfl rfl ))))); any_goals (apply a0h; rfl))); (all_goals (try (first | (simp only; omega)))))
  ))
   ·(repeat' (first
  | refine SP ?_
  | refine a01 (by first | exact beq_self_eq_true _ | decide) ?_
  | refine a05 (by decide) ?_
  | (apply a0g <;> intro hb <;> (try simp only [nS, nT, eq_self, reduceCtorEq] at hb) <;> (try (exfalso; fail; done)))
  | refine a0u (by decide +kernel) ?_
  | refine a0l ?_
  | refine OB ?_
  | ((first | apply a0s [some 9, some 17] (hD)); (focus ((iterate 2 (all_goals (repeat' (first | exact a0q | exact a0e rfl | exact hb.symm | exact a0c | exact trivial | refine SP ?_ | refine And.intro ?_ ?_ | refine a0b ?_ ?_ | refine a0n ?_ | exact a0d rfl rfl | exact a0a _ _ | exact a1b rfl | refine a1b ?_ )))))); (any_goals (first | (apply a0v; rfl) )))
  | (apply a0m (Subtype.mk (7 + 1, true) (by first | omega | (simp only; omega))); (focus (skip; apply a0t [some 0, some 1, some 2, some 3, some 4, some 5, some 6, some 7, some 8, some 9, some 10, some 11, some 12, some 13, some 14, some 15, some 16, some 17, some 18, some 19]; (focus (iterate 2 (all_goals (repeat' (first | exact a0q | exact a0e rfl | exact a3f rfl rfl rfl rfl rfl rfl rfl rfl | exact a0x rfl | exact a0c | exact trivial | refine SP ?_ | refine And.intro ?_ ?_ | refine a0b ?_ ?_ | refine a0n ?_ | exact a0d rfl rfl | exact a0i rfl rfl rfl | exact a0a _ _ | exact a1j rfl | exact a0f rfl rfl rfl ))))); any_goals (apply a0h; rfl))); (all_goals (try (first | (simp only; omega)))))
  ))
  ·obtain rfl : x = 8 := by omega
   (repeat' (first
  | refine SP ?_
  | (apply a0g <;> intro hb <;> (try simp only [nS, nT, eq_self, reduceCtorEq] at hb) <;> (try (exfalso; omega)))
  | (apply a1q 0 [some 1, some 2, some 3, some 4, some 5, some 6, some 7, some 8, some 9, some 10, some 11, some 12, some 13, some 14, some 15, some 16, some 17] [] rfl; (focus (iterate 2 (all_goals (repeat' (first | exact a0q | exact a0e rfl | exact a3f rfl rfl rfl rfl rfl rfl rfl rfl | exact a0x rfl | exact a0c | exact trivial | refine SP ?_ | refine And.intro ?_ ?_ | refine a0b ?_ ?_ | refine a3m ?_ | refine a0n ?_ | exact a0d rfl rfl | exact a0a _ _ ))))); (any_goals rfl))
  ))
end Go.Vx.L42.B

/- Lemmas of a small executor for the model, and contracts of functions, used for the law that this claim proves. No condition. -/
import Derived.Test.YtodbfpjjahpahaaDoorBX9
set_option linter.unusedSimpArgs false
set_option linter.unusedVariables false
set_option maxRecDepth 100000
namespace Go.Vx.L42.B
open Go Go.Proofs Go.Vx.L42
def mgC (m : MG) : List AV := .val (.int .i64 m.port) :: mgM m
instance : FlatC mgC := ⟨fun x v h => by simp [mgC] at h; rcases h with rfl | rfl | rfl | rfl | rfl | rfl | rfl | rfl | rfl | rfl | rfl | rfl | rfl | rfl | rfl | rfl | rfl | rfl | rfl | rfl | rfl | rfl <;> trivial⟩
abbrev mg0 : MG := ⟨0, 0, 0, default⟩
def sdD (c : CS) : DS := { c.fol with st := if c.fol = owD c.nd then 0 else c.fol.st + 1 }
def a16 (c : CS) : Nat -> List MG
 | 0 => []
 | x + 1 => a16 c x ++ (if c.st x = 6 then [⟨c.nd.id, x + 1, c.an x, sdD c⟩] else [])
def anF (c : CS) (i : Nat) : Int := if c.st i = 6 then (c.an i + 1) % 65536 else c.an i
def a1v (c : CS) : CS := { c with an := anF c }
theorem c5i {c : CS} {a : Nat -> Int} {x : Nat} {v : Int} (ha : ∀ i, i < 8 -> a i = if i < x then anF c i else c.an i) (hv : v = anF c x) : ∀ i, i < 8 -> (bif Nat.beq i x then v else a i) = if i < x + 1 then anF c i else c.an i := by
 intro i hi
 by_cases h : i = x
 ·subst h
  rw [Nat.beq_refl, cond_true, if_pos (by omega), hv]
 ·have e : Nat.beq i x = false := by
   cases hb : Nat.beq i x
   ·rfl
   ·exact absurd (Nat.eq_of_beq_eq_true hb) h
  rw [e, cond_false, ha i hi]
  by_cases h2 : i < x
  ·rw [if_pos h2, if_pos (by omega)]
  ·rw [if_neg h2, if_neg (by omega)]
theorem c57 {c : CS} {a : Nat -> Int} {x : Nat} (ha : ∀ i, i < 8 -> a i = if i < x then anF c i else c.an i) (hv : anF c x = c.an x) : ∀ i, i < 8 -> a i = if i < x + 1 then anF c i else c.an i := by
 intro i hi
 rw [ha i hi]
 by_cases h : i = x
 ·subst h
  rw [if_neg (by omega), if_pos (by omega), hv]
 ·by_cases h2 : i < x
  ·rw [if_pos h2, if_pos (by omega)]
  ·rw [if_neg h2, if_neg (by omega)]
theorem a42 (c : CS) : ∀ x, (a16 c x).length <= x
 | 0 => Nat.le_refl _
 | x + 1 => by
  have := a42 c x
  simp only [a16, List.length_append]
  split <;> simp <;> omega
set_option maxHeartbeats 16000000 in
theorem a8v (c : CS) (hst : 0 <= c.fol.st /\ c.fol.st <= 30) (han : ∀ i, i < 8 -> 0 <= c.an i /\ c.an i <= 65535) : Runs Tryd.prog 34 [.ptr 0 24 0 0] [.obj (a1h c)] (Det (.sl 1 22 0 (a16 c 8).length none) [.obj (a1h (a1v c)), .arr true 104 22 (a16 c 8).length (a2x mgC mg0 (a16 c 8))]) := by
 have hown := b23 c.nd c.fol c.last
 have hsd : sdD c = { c.fol with st := if c.fol = owD c.nd then 0 else c.fol.st + 1 } := rfl
 rw [a5x, a5x]
 obtain ⟨sp, hsp⟩ : ∃ sp, sp = if c.fol = owD c.nd then 0 else c.fol.st + 1 := ⟨_, rfl⟩
 rw [<- hsp] at hsd
 have hr : 0 <= sp /\ sp <= 31 := by rw [hsp]; split <;> omega
 have hw : IntKind.i64.wrap (c.fol.st + 1) = c.fol.st + 1 := by rw [IntKind.wrap_i64]; omega
 refine Runs.mkObj a1a Tryd.call34 Tryd.func34 rfl Tryd.ntmps34 Tryd.results34 rfl rfl ?_
 apply c31
 ·intro key
  by_cases hf : c.fol = owD c.nd
  ·rw [if_pos hf] at hsp
   rw [<- hf] at hown
   (repeat' (first
  | refine SP ?_
  | (with_reducible refine a1k ?_)
  | (apply a0g <;> intro hb <;> (try simp only [nS, nT, eq_self, reduceCtorEq] at hb) <;> (try (exfalso; omega)))
  | refine a0u (by decide +kernel) ?_
  | refine a0l ?_
  | ((first | apply a0s [some 0] (hown)); (focus ((iterate 2 (all_goals (repeat' (first | exact a0q | exact a0c | exact trivial | refine SP ?_ | refine And.intro ?_ ?_ | refine a0b ?_ ?_ | refine a2j ?_ rfl | exact a0d rfl rfl | exact a0a _ _ )))); done)); (any_goals (first | (apply a0v; rfl) )))
  ))
   refine a00 (σ := Nat × (Nat -> Int)) (fun x => x.1 <= 8 /\ ∀ i, i < 8 -> x.2 i = if i < x.1 then anF c i else c.an i) (fun x => ⟨[(0, .ptr 0 24 0 0), (3, .ptr 18 11 0 0), (4, .val (.int .i64 sp)), (5, .sl 19 22 0 (a16 c x.1).length none), (6, .val (.int .i64 ((x.1 : Int) + 1)))], [b71 c.nd c.fol c.last, c3q, stB (c.st 0) (x.2 0) (c.mrk 0) 10, stB (c.st 1) (x.2 1) (c.mrk 1) 11, stB (c.st 2) (x.2 2) (c.mrk 2) 12, stB (c.st 3) (x.2 3) (c.mrk 3) 13, stB (c.st 4) (x.2 4) (c.mrk 4) 14, stB (c.st 5) (x.2 5) (c.mrk 5) 15, stB (c.st 6) (x.2 6) (c.mrk 6) 16, stB (c.st 7) (x.2 7) (c.mrk 7) 17, .obj (a3j (c.rl 0) (c.rc 0)), .obj (a3j (c.rl 1) (c.rc 1)), .obj (a3j (c.rl 2) (c.rc 2)), .obj (a3j (c.rl 3) (c.rc 3)), .obj (a3j (c.rl 4) (c.rc 4)), .obj (a3j (c.rl 5) (c.rc 5)), .obj (a3j (c.rl 6) (c.rc 6)), .obj (a3j (c.rl 7) (c.rc 7)), .var (dC c.fol), .arr true 104 22 (a16 c x.1).length (a2x mgC mg0 (a16 c x.1))]⟩) (fun x => 8 - x.1) (0, c.an) ⟨by simp, fun i hi => by rw [if_neg (by simp)]⟩ ?_ key.out
   (apply a0t [some 0, some 1, some 2, some 3, some 4, some 5, some 6, some 7, some 8, some 9, some 10, some 11, some 12, some 13, some 14, some 15, some 16, some 17, some 18, none]; (focus (iterate 2 (all_goals (repeat' (first | exact a0q | exact a0e rfl | exact a3f rfl rfl rfl rfl rfl rfl rfl rfl | exact a0x rfl | exact a0c | exact trivial | refine SP ?_ | refine And.intro ?_ ?_ | refine a0b ?_ ?_ | refine a0n ?_ | exact a0d rfl rfl | exact a0a _ _ | exact a3a rfl | ((first | refine a0r ?_ | refine a52 ?_ ); first | with_reducible rfl | omega | ((try simp only [wS]); omega) | rfl) ))))); any_goals (apply a0h; rfl))
  ·rw [if_neg hf] at hsp
   have hne : ¬ (c.fol.p1 = (owD c.nd).p1 /\ c.fol.cl = (owD c.nd).cl /\ c.fol.ac = (owD c.nd).ac /\ c.fol.va = (owD c.nd).va /\ c.fol.p2 = (owD c.nd).p2 /\ c.fol.gm = (owD c.nd).gm /\ c.fol.st = (owD c.nd).st /\ c.fol.se = (owD c.nd).se /\ c.fol.sp = (owD c.nd).sp /\ c.fol.re = (owD c.nd).re /\ c.fol.rp = (owD c.nd).rp) := fun ⟨a1, a2, a3, a4, a5, a6, a7, a8, a9, a10, a11⟩ => hf (by
    generalize owD c.nd = o at *
    generalize c.fol = f at *
    cases o; cases f; simp_all)
   (repeat' (first
  | refine SP ?_
  | (with_reducible refine a1k ?_)
  | (apply a0g <;> intro hb <;> (try simp only [nS, nT, eq_self, reduceCtorEq] at hb) <;> (try (exfalso; omega)))
  | refine a0u (by decide +kernel) ?_
  | refine a0l ?_
  | ((first | apply a0s [some 0] (hown)); (focus ((iterate 2 (all_goals (repeat' (first | exact a0q | exact a0c | exact trivial | refine SP ?_ | refine And.intro ?_ ?_ | refine a0b ?_ ?_ | refine a2j ?_ rfl | exact a0d rfl rfl | exact a0a _ _ )))); done)); (any_goals (first | (apply a0v; rfl) )))
  ))
   refine a00 (σ := Nat × (Nat -> Int)) (fun x => x.1 <= 8 /\ ∀ i, i < 8 -> x.2 i = if i < x.1 then anF c i else c.an i) (fun x => ⟨[(0, .ptr 0 24 0 0), (3, .ptr 18 11 0 0), (4, .val (.int .i64 sp)), (5, .sl 19 22 0 (a16 c x.1).length none), (6, .val (.int .i64 ((x.1 : Int) + 1)))], [b71 c.nd c.fol c.last, c3q, stB (c.st 0) (x.2 0) (c.mrk 0) 10, stB (c.st 1) (x.2 1) (c.mrk 1) 11, stB (c.st 2) (x.2 2) (c.mrk 2) 12, stB (c.st 3) (x.2 3) (c.mrk 3) 13, stB (c.st 4) (x.2 4) (c.mrk 4) 14, stB (c.st 5) (x.2 5) (c.mrk 5) 15, stB (c.st 6) (x.2 6) (c.mrk 6) 16, stB (c.st 7) (x.2 7) (c.mrk 7) 17, .obj (a3j (c.rl 0) (c.rc 0)), .obj (a3j (c.rl 1) (c.rc 1)), .obj (a3j (c.rl 2) (c.rc 2)), .obj (a3j (c.rl 3) (c.rc 3)), .obj (a3j (c.rl 4) (c.rc 4)), .obj (a3j (c.rl 5) (c.rc 5)), .obj (a3j (c.rl 6) (c.rc 6)), .obj (a3j (c.rl 7) (c.rc 7)), .var (dC c.fol), .arr true 104 22 (a16 c x.1).length (a2x mgC mg0 (a16 c x.1))]⟩) (fun x => 8 - x.1) (0, c.an) ⟨by simp, fun i hi => by rw [if_neg (by simp)]⟩ ?_ key.out
   (apply a0t [some 0, some 1, some 2, some 3, some 4, some 5, some 6, some 7, some 8, some 9, some 10, some 11, some 12, some 13, some 14, some 15, some 16, some 17, some 18, none]; (focus (iterate 2 (all_goals (repeat' (first | exact a0q | exact a0e rfl | exact a3f rfl rfl rfl rfl rfl rfl rfl rfl | exact a0x rfl | exact a0c | exact trivial | refine SP ?_ | refine And.intro ?_ ?_ | refine a0b ?_ ?_ | refine a0n ?_ | exact a0d rfl rfl | exact a0a _ _ | exact a3a rfl | ((first | refine a0r ?_ | refine a52 ?_ ); first | with_reducible rfl | omega | ((try simp only [wS]); omega) | rfl) ))))); any_goals (apply a0h; rfl))
 clear hown hw
 rintro ⟨x, a⟩ ⟨hx, ha⟩
 have hx : x <= 8 := hx
 have ha : ∀ i, i < 8 -> a i = if i < x then anF c i else c.an i := ha
 by_cases hxl : x < 8
 ·have hax := ha x hxl
  rw [if_neg (by omega)] at hax
  have hs := c19 (c.st x)
  have hlq := a42 c x
  have hb := han x hxl
  rw [<- hax] at hb
  have haf := c2h (a x) hb
  by_cases h6 : c.st x = 6
  ·have hv : (a x + 1) % 65536 = anF c x := by unfold anF; rw [if_pos h6, hax]
   have hsx : a16 c (x + 1) = a16 c x ++ [⟨c.nd.id, x + 1, a x, { c.fol with st := sp }⟩] := by rw [hax, <- hsd]; show _ ++ _ = _; rw [if_pos h6]
   have hstep := c5i ha hv
   clear han hsp hst hsd hax ha hv
   generalize hq1 : a16 c (x + 1) = q1 at *
   generalize a16 c x = q at *
   rcases lt8 hxl with rfl | rfl | rfl | rfl | rfl | rfl | rfl | rfl
   ·(repeat' (first
  | refine SP ?_
  | refine a01 (by first | exact beq_self_eq_true _ | decide | rfl) ?_
  | (apply a0g <;> intro hb <;> (try simp only [nS, nT, eq_self, reduceCtorEq] at hb) <;> (try (exfalso; omega)))
  | refine a0u (by decide +kernel) ?_
  | refine a0l ?_
  | refine OB ?_
  | ((first | apply a2d (hs) ); (focus (iterate 2 (all_goals (repeat' (first | exact a0c | refine a0b ?_ ?_ | exact a0a _ _ ))))))
  | ((first | apply a2d (haf) ); (focus (iterate 2 (all_goals (repeat' (first | exact a0c | refine a0b ?_ ?_ | exact a0a _ _ ))))))
  | (apply a0m (Subtype.mk (0 + 1, fun i => bif Nat.beq i 0 then (a 0 + 1) % 65536 else a i) ⟨by simp, hstep⟩); (focus (rw [hq1, hsx]; apply a0t [some 0, some 1, some 2, some 3, some 4, some 5, some 6, some 7, some 8, some 9, some 10, some 11, some 12, some 13, some 14, some 15, some 16, some 17, some 18, some _]; (focus (iterate 2 (all_goals (repeat' (first | exact a0q | exact a0e rfl | exact a3f rfl rfl rfl rfl rfl rfl rfl rfl | exact a0x rfl | exact a0c | exact trivial | refine SP ?_ | refine And.intro ?_ ?_ | refine a0b ?_ ?_ | refine a0n ?_ | exact a0d rfl rfl | exact a0a _ _ | ((first | refine a0r ?_ | refine a0i rfl rfl ?_ | show (_ : Nat) = _); first | with_reducible rfl | omega | ((try simp only [wS]); omega) | rfl) | apply a1l | refine a0y ?_ ?_ | exact a2o | with_reducible rfl | refine a0r ?_ | refine a0i rfl rfl ?_ ))))); any_goals (apply a0h; rfl))); (all_goals (try (first | (simp only; omega)))))
  ))
    all_goals simp
   ·(repeat' (first
  | refine SP ?_
  | refine a01 (by first | exact beq_self_eq_true _ | decide | rfl) ?_
  | (apply a0g <;> intro hb <;> (try simp only [nS, nT, eq_self, reduceCtorEq] at hb) <;> (try (exfalso; omega)))
  | refine a0u (by decide +kernel) ?_
  | refine a0l ?_
  | refine OB ?_
  | ((first | apply a2d (hs) ); (focus (iterate 2 (all_goals (repeat' (first | exact a0c | refine a0b ?_ ?_ | exact a0a _ _ ))))))
  | ((first | apply a2d (haf) ); (focus (iterate 2 (all_goals (repeat' (first | exact a0c | refine a0b ?_ ?_ | exact a0a _ _ ))))))
  | (apply a0m (Subtype.mk (1 + 1, fun i => bif Nat.beq i 1 then (a 1 + 1) % 65536 else a i) ⟨by simp, hstep⟩); (focus (rw [hq1, hsx]; apply a0t [some 0, some 1, some 2, some 3, some 4, some 5, some 6, some 7, some 8, some 9, some 10, some 11, some 12, some 13, some 14, some 15, some 16, some 17, some 18, some _]; (focus (iterate 2 (all_goals (repeat' (first | exact a0q | exact a0e rfl | exact a3f rfl rfl rfl rfl rfl rfl rfl rfl | exact a0x rfl | exact a0c | exact trivial | refine SP ?_ | refine And.intro ?_ ?_ | refine a0b ?_ ?_ | refine a0n ?_ | exact a0d rfl rfl | exact a0a _ _ | ((first | refine a0r ?_ | refine a0i rfl rfl ?_ | show (_ : Nat) = _); first | with_reducible rfl | omega | ((try simp only [wS]); omega) | rfl) | apply a1l | refine a0y ?_ ?_ | exact a2o | with_reducible rfl | refine a0r ?_ | refine a0i rfl rfl ?_ ))))); any_goals (apply a0h; rfl))); (all_goals (try (first | (simp only; omega)))))
  ))
    all_goals simp
   ·(repeat' (first
  | refine SP ?_
  | refine a01 (by first | exact beq_self_eq_true _ | decide | rfl) ?_
  | (apply a0g <;> intro hb <;> (try simp only [nS, nT, eq_self, reduceCtorEq] at hb) <;> (try (exfalso; omega)))
  | refine a0u (by decide +kernel) ?_
  | refine a0l ?_
  | refine OB ?_
  | ((first | apply a2d (hs) ); (focus (iterate 2 (all_goals (repeat' (first | exact a0c | refine a0b ?_ ?_ | exact a0a _ _ ))))))
  | ((first | apply a2d (haf) ); (focus (iterate 2 (all_goals (repeat' (first | exact a0c | refine a0b ?_ ?_ | exact a0a _ _ ))))))
  | (apply a0m (Subtype.mk (2 + 1, fun i => bif Nat.beq i 2 then (a 2 + 1) % 65536 else a i) ⟨by simp, hstep⟩); (focus (rw [hq1, hsx]; apply a0t [some 0, some 1, some 2, some 3, some 4, some 5, some 6, some 7, some 8, some 9, some 10, some 11, some 12, some 13, some 14, some 15, some 16, some 17, some 18, some _]; (focus (iterate 2 (all_goals (repeat' (first | exact a0q | exact a0e rfl | exact a3f rfl rfl rfl rfl rfl rfl rfl rfl | exact a0x rfl | exact a0c | exact trivial | refine SP ?_ | refine And.intro ?_ ?_ | refine a0b ?_ ?_ | refine a0n ?_ | exact a0d rfl rfl | exact a0a _ _ | ((first | refine a0r ?_ | refine a0i rfl rfl ?_ | show (_ : Nat) = _); first | with_reducible rfl | omega | ((try simp only [wS]); omega) | rfl) | apply a1l | refine a0y ?_ ?_ | exact a2o | with_reducible rfl | refine a0r ?_ | refine a0i rfl rfl ?_ ))))); any_goals (apply a0h; rfl))); (all_goals (try (first | (simp only; omega)))))
  ))
    all_goals simp
   ·(repeat' (first
  | refine SP ?_
  | refine a01 (by first | exact beq_self_eq_true _ | decide | rfl) ?_
  | (apply a0g <;> intro hb <;> (try simp only [nS, nT, eq_self, reduceCtorEq] at hb) <;> (try (exfalso; omega)))
  | refine a0u (by decide +kernel) ?_
  | refine a0l ?_
  | refine OB ?_
  | ((first | apply a2d (hs) ); (focus (iterate 2 (all_goals (repeat' (first | exact a0c | refine a0b ?_ ?_ | exact a0a _ _ ))))))
  | ((first | apply a2d (haf) ); (focus (iterate 2 (all_goals (repeat' (first | exact a0c | refine a0b ?_ ?_ | exact a0a _ _ ))))))
  | (apply a0m (Subtype.mk (3 + 1, fun i => bif Nat.beq i 3 then (a 3 + 1) % 65536 else a i) ⟨by simp, hstep⟩); (focus (rw [hq1, hsx]; apply a0t [some 0, some 1, some 2, some 3, some 4, some 5, some 6, some 7, some 8, some 9, some 10, some 11, some 12, some 13, some 14, some 15, some 16, some 17, some 18, some _]; (focus (iterate 2 (all_goals (repeat' (first | exact a0q | exact a0e rfl | exact a3f rfl rfl rfl rfl rfl rfl rfl rfl | exact a0x rfl | exact a0c | exact trivial | refine SP ?_ | refine And.intro ?_ ?_ | refine a0b ?_ ?_ | refine a0n ?_ | exact a0d rfl rfl | exact a0a _ _ | ((first | refine a0r ?_ | refine a0i rfl rfl ?_ | show (_ : Nat) = _); first | with_reducible rfl | omega | ((try simp only [wS]); omega) | rfl) | apply a1l | refine a0y ?_ ?_ | exact a2o | with_reducible rfl | refine a0r ?_ | refine a0i rfl rfl ?_ ))))); any_goals (apply a0h; rfl))); (all_goals (try (first | (simp only; omega)))))
  ))
    all_goals simp
   ·(repeat' (first
  | refine SP ?_
  | refine a01 (by first | exact beq_self_eq_true _ | decide | rfl) ?_
  | (apply a0g <;> intro hb <;> (try simp only [nS, nT, eq_self, reduceCtorEq] at hb) <;> (try (exfalso; omega)))
  | refine a0u (by decide +kernel) ?_
  | refine a0l ?_
  | refine OB ?_
  | ((first | apply a2d (hs) ); (focus (iterate 2 (all_goals (repeat' (first | exact a0c | refine a0b ?_ ?_ | exact a0a _ _ ))))))
  | ((first | apply a2d (haf) ); (focus (iterate 2 (all_goals (repeat' (first | exact a0c | refine a0b ?_ ?_ | exact a0a _ _ ))))))
  | (apply a0m (Subtype.mk (4 + 1, fun i => bif Nat.beq i 4 then (a 4 + 1) % 65536 else a i) ⟨by simp, hstep⟩); (focus (rw [hq1, hsx]; apply a0t [some 0, some 1, some 2, some 3, some 4, some 5, some 6, some 7, some 8, some 9, some 10, some 11, some 12, some 13, some 14, some 15, some 16, some 17, some 18, some _]; (focus (iterate 2 (all_goals (repeat' (first | exact a0q | exact a0e rfl | exact a3f rfl rfl rfl rfl rfl rfl rfl rfl | exact a0x rfl | exact a0c | exact trivial | refine SP ?_ | refine And.intro ?_ ?_ | refine a0b ?_ ?_ | refine a0n ?_ | exact a0d rfl rfl | exact a0a _ _ | ((first | refine a0r ?_ | refine a0i rfl rfl ?_ | show (_ : Nat) = _); first | with_reducible rfl | omega | ((try simp only [wS]); omega) | rfl) | apply a1l | refine a0y ?_ ?_ | exact a2o | with_reducible rfl | refine a0r ?_ | refine a0i rfl rfl ?_ ))))); any_goals (apply a0h; rfl))); (all_goals (try (first | (simp only; omega)))))
  ))
    all_goals simp
   ·(repeat' (first
  | refine SP ?_
  | refine a01 (by first | exact beq_self_eq_true _ | decide | rfl) ?_
  | (apply a0g <;> intro hb <;> (try simp only [nS, nT, eq_self, reduceCtorEq] at hb) <;> (try (exfalso; omega)))
  | refine a0u (by decide +kernel) ?_
  | refine a0l ?_
  | refine OB ?_
  | ((first | apply a2d (hs) ); (focus (iterate 2 (all_goals (repeat' (first | exact a0c | refine a0b ?_ ?_ | exact a0a _ _ ))))))
  | ((first | apply a2d (haf) ); (focus (iterate 2 (all_goals (repeat' (first | exact a0c | refine a0b ?_ ?_ | exact a0a _ _ ))))))
  | (apply a0m (Subtype.mk (5 + 1, fun i => bif Nat.beq i 5 then (a 5 + 1) % 65536 else a i) ⟨by simp, hstep⟩); (focus (rw [hq1, hsx]; apply a0t [some 0, some 1, some 2, some 3, some 4, some 5, some 6, some 7, some 8, some 9, some 10, some 11, some 12, some 13, some 14, some 15, some 16, some 17, some 18, some _]; (focus (iterate 2 (all_goals (repeat' (first | exact a0q | exact a0e rfl | exact a3f rfl rfl rfl rfl rfl rfl rfl rfl | exact a0x rfl | exact a0c | exact trivial | refine SP ?_ | refine And.intro ?_ ?_ | refine a0b ?_ ?_ | refine a0n ?_ | exact a0d rfl rfl | exact a0a _ _ | ((first | refine a0r ?_ | refine a0i rfl rfl ?_ | show (_ : Nat) = _); first | with_reducible rfl | omega | ((try simp only [wS]); omega) | rfl) | apply a1l | refine a0y ?_ ?_ | exact a2o | with_reducible rfl | refine a0r ?_ | refine a0i rfl rfl ?_ ))))); any_goals (apply a0h; rfl))); (all_goals (try (first | (simp only; omega)))))
  ))
    all_goals simp
   ·(repeat' (first
  | refine SP ?_
  | refine a01 (by first | exact beq_self_eq_true _ | decide | rfl) ?_
  | (apply a0g <;> intro hb <;> (try simp only [nS, nT, eq_self, reduceCtorEq] at hb) <;> (try (exfalso; omega)))
  | refine a0u (by decide +kernel) ?_
  | refine a0l ?_
  | refine OB ?_
  | ((first | apply a2d (hs) ); (focus (iterate 2 (all_goals (repeat' (first | exact a0c | refine a0b ?_ ?_ | exact a0a _ _ ))))))
  | ((first | apply a2d (haf) ); (focus (iterate 2 (all_goals (repeat' (first | exact a0c | refine a0b ?_ ?_ | exact a0a _ _ ))))))
  | (apply a0m (Subtype.mk (6 + 1, fun i => bif Nat.beq i 6 then (a 6 + 1) % 65536 else a i) ⟨by simp, hstep⟩); (focus (rw [hq1, hsx]; apply a0t [some 0, some 1, some 2, some 3, some 4, some 5, some 6, some 7, some 8, some 9, some 10, some 11, some 12, some 13, some 14, some 15, some 16, some 17, some 18, some _]; (focus (iterate 2 (all_goals (repeat' (first | exact a0q | exact a0e rfl | exact a3f rfl rfl rfl rfl rfl rfl rfl rfl | exact a0x rfl | exact a0c | exact trivial | refine SP ?_ | refine And.intro ?_ ?_ | refine a0b ?_ ?_ | refine a0n ?_ | exact a0d rfl rfl | exact a0a _ _ | ((first | refine a0r ?_ | refine a0i rfl rfl ?_ | show (_ : Nat) = _); first | with_reducible rfl | omega | ((try simp only [wS]); omega) | rfl) | apply a1l | refine a0y ?_ ?_ | exact a2o | with_reducible rfl | refine a0r ?_ | refine a0i rfl rfl ?_ ))))); any_goals (apply a0h; rfl))); (all_goals (try (first | (simp only; omega)))))
  ))
    all_goals simp
   ·(repeat' (first
  | refine SP ?_
  | refine a01 (by first | exact beq_self_eq_true _ | decide | rfl) ?_
  | (apply a0g <;> intro hb <;> (try simp only [nS, nT, eq_self, reduceCtorEq] at hb) <;> (try (exfalso; omega)))
  | refine a0u (by decide +kernel) ?_
  | refine a0l ?_
  | refine OB ?_
  | ((first | apply a2d (hs) ); (focus (iterate 2 (all_goals (repeat' (first | exact a0c | refine a0b ?_ ?_ | exact a0a _ _ ))))))
  | ((first | apply a2d (haf) ); (focus (iterate 2 (all_goals (repeat' (first | exact a0c | refine a0b ?_ ?_ | exact a0a _ _ ))))))
  | (apply a0m (Subtype.mk (7 + 1, fun i => bif Nat.beq i 7 then (a 7 + 1) % 65536 else a i) ⟨by simp, hstep⟩); (focus (rw [hq1, hsx]; apply a0t [some 0, some 1, some 2, some 3, some 4, some 5, some 6, some 7, some 8, some 9, some 10, some 11, some 12, some 13, some 14, some 15, some 16, some 17, some 18, some _]; (focus (iterate 2 (all_goals (repeat' (first | exact a0q | exact a0e rfl | exact a3f rfl rfl rfl rfl rfl rfl rfl rfl | exact a0x rfl | exact a0c | exact trivial | refine SP ?_ | refine And.intro ?_ ?_ | refine a0b ?_ ?_ | refine a0n ?_ | exact a0d rfl rfl | exact a0a _ _ | ((first | refine a0r ?_ | refine a0i rfl rfl ?_ | show (_ : Nat) = _); first | with_reducible rfl | omega | ((try simp only [wS]); omega) | rfl) | apply a1l | refine a0y ?_ ?_ | exact a2o | with_reducible rfl | refine a0r ?_ | refine a0i rfl rfl ?_ ))))); any_goals (apply a0h; rfl))); (all_goals (try (first | (simp only; omega)))))
  ))
    all_goals simp
  ·have hv : anF c x = c.an x := by unfold anF; rw [if_neg h6]
   have hsx : a16 c (x + 1) = a16 c x := by show _ ++ _ = _; rw [if_neg h6, List.append_nil]
   have hstep := c57 ha hv
   clear han hsp hst hsd hax ha hv haf
   generalize hq1 : a16 c (x + 1) = q1 at *
   generalize a16 c x = q at *
   rcases lt8 hxl with rfl | rfl | rfl | rfl | rfl | rfl | rfl | rfl
   ·(repeat' (first
  | refine SP ?_
  | refine a01 (by first | exact beq_self_eq_true _ | decide | rfl) ?_
  | (apply a0g <;> intro hb <;> (try simp only [nS, nT, eq_self, reduceCtorEq] at hb) <;> (try (exfalso; omega)))
  | refine a0l ?_
  | ((first | apply a2d (hs) ); (focus (iterate 2 (all_goals (repeat' (first | exact a0c | refine a0b ?_ ?_ | exact a0a _ _ ))))))
  | (apply a0m (Subtype.mk (0 + 1, a) ⟨by simp, hstep⟩); (focus (rw [hq1, hsx]; apply a0t [some 0, some 1, some 2, some 3, some 4, some 5, some 6, some 7, some 8, some 9, some 10, some 11, some 12, some 13, some 14, some 15, some 16, some 17, some 18, some 19]; (focus (iterate 2 (all_goals (repeat' (first | exact a0q | exact a0e rfl | exact a3f rfl rfl rfl rfl rfl rfl rfl rfl | exact a0x rfl | exact a0c | exact trivial | refine SP ?_ | refine And.intro ?_ ?_ | refine a0b ?_ ?_ | refine a0n ?_ | exact a0d rfl rfl | exact a0i rfl rfl rfl | exact a0a _ _ | exact a0f rfl rfl rfl ))))); any_goals (apply a0h; rfl))); (all_goals (try (first | (simp only; omega)))))
  ))
   ·(repeat' (first
  | refine SP ?_
  | refine a01 (by first | exact beq_self_eq_true _ | decide | rfl) ?_
  | (apply a0g <;> intro hb <;> (try simp only [nS, nT, eq_self, reduceCtorEq] at hb) <;> (try (exfalso; omega)))
  | refine a0l ?_
  | ((first | apply a2d (hs) ); (focus (iterate 2 (all_goals (repeat' (first | exact a0c | refine a0b ?_ ?_ | exact a0a _ _ ))))))
  | (apply a0m (Subtype.mk (1 + 1, a) ⟨by simp, hstep⟩); (focus (rw [hq1, hsx]; apply a0t [some 0, some 1, some 2, some 3, some 4, some 5, some 6, some 7, some 8, some 9, some 10, some 11, some 12, some 13, some 14, some 15, some 16, some 17, some 18, some 19]; (focus (iterate 2 (all_goals (repeat' (first | exact a0q | exact a0e rfl | exact a3f rfl rfl rfl rfl rfl rfl rfl rfl | exact a0x rfl | exact a0c | exact trivial | refine SP ?_ | refine And.intro ?_ ?_ | refine a0b ?_ ?_ | refine a0n ?_ | exact a0d rfl rfl | exact a0i rfl rfl rfl | exact a0a _ _ | exact a0f rfl rfl rfl ))))); any_goals (apply a0h; rfl))); (all_goals (try (first | (simp only; omega)))))
  ))
   ·(repeat' (first
  | refine SP ?_
  | refine a01 (by first | exact beq_self_eq_true _ | decide | rfl) ?_
  | (apply a0g <;> intro hb <;> (try simp only [nS, nT, eq_self, reduceCtorEq] at hb) <;> (try (exfalso; omega)))
  | refine a0l ?_
  | ((first | apply a2d (hs) ); (focus (iterate 2 (all_goals (repeat' (first | exact a0c | refine a0b ?_ ?_ | exact a0a _ _ ))))))
  | (apply a0m (Subtype.mk (2 + 1, a) ⟨by simp, hstep⟩); (focus (rw [hq1, hsx]; apply a0t [some 0, some 1, some 2, some 3, some 4, some 5, some 6, some 7, some 8, some 9, some 10, some 11, some 12, some 13, some 14, some 15, some 16, some 17, some 18, some 19]; (focus (iterate 2 (all_goals (repeat' (first | exact a0q | exact a0e rfl | exact a3f rfl rfl rfl rfl rfl rfl rfl rfl | exact a0x rfl | exact a0c | exact trivial | refine SP ?_ | refine And.intro ?_ ?_ | refine a0b ?_ ?_ | refine a0n ?_ | exact a0d rfl rfl | exact a0i rfl rfl rfl | exact a0a _ _ | exact a0f rfl rfl rfl ))))); any_goals (apply a0h; rfl))); (all_goals (try (first | (simp only; omega)))))
  ))
   ·(repeat' (first
  | refine SP ?_
  | refine a01 (by first | exact beq_self_eq_true _ | decide | rfl) ?_
  | (apply a0g <;> intro hb <;> (try simp only [nS, nT, eq_self, reduceCtorEq] at hb) <;> (try (exfalso; omega)))
  | refine a0l ?_
  | ((first | apply a2d (hs) ); (focus (iterate 2 (all_goals (repeat' (first | exact a0c | refine a0b ?_ ?_ | exact a0a _ _ ))))))
  | (apply a0m (Subtype.mk (3 + 1, a) ⟨by simp, hstep⟩); (focus (rw [hq1, hsx]; apply a0t [some 0, some 1, some 2, some 3, some 4, some 5, some 6, some 7, some 8, some 9, some 10, some 11, some 12, some 13, some 14, some 15, some 16, some 17, some 18, some 19]; (focus (iterate 2 (all_goals (repeat' (first | exact a0q | exact a0e rfl | exact a3f rfl rfl rfl rfl rfl rfl rfl rfl | exact a0x rfl | exact a0c | exact trivial | refine SP ?_ | refine And.intro ?_ ?_ | refine a0b ?_ ?_ | refine a0n ?_ | exact a0d rfl rfl | exact a0i rfl rfl rfl | exact a0a _ _ | exact a0f rfl rfl rfl ))))); any_goals (apply a0h; rfl))); (all_goals (try (first | (simp only; omega)))))
  ))
   ·(repeat' (first
  | refine SP ?_
  | refine a01 (by first | exact beq_self_eq_true _ | decide | rfl) ?_
  | (apply a0g <;> intro hb <;> (try simp only [nS, nT, eq_self, reduceCtorEq] at hb) <;> (try (exfalso; omega)))
  | refine a0l ?_
  | ((first | apply a2d (hs) ); (focus (iterate 2 (all_goals (repeat' (first | exact a0c | refine a0b ?_ ?_ | exact a0a _ _ ))))))
  | (apply a0m (Subtype.mk (4 + 1, a) ⟨by simp, hstep⟩); (focus (rw [hq1, hsx]; apply a0t [some 0, some 1, some 2, some 3, some 4, some 5, some 6, some 7, some 8, some 9, some 10, some 11, some 12, some 13, some 14, some 15, some 16, some 17, some 18, some 19]; (focus (iterate 2 (all_goals (repeat' (first | exact a0q | exact a0e rfl | exact a3f rfl rfl rfl rfl rfl rfl rfl rfl | exact a0x rfl | exact a0c | exact trivial | refine SP ?_ | refine And.intro ?_ ?_ | refine a0b ?_ ?_ | refine a0n ?_ | exact a0d rfl rfl | exact a0i rfl rfl rfl | exact a0a _ _ | exact a0f rfl rfl rfl ))))); any_goals (apply a0h; rfl))); (all_goals (try (first | (simp only; omega)))))
  ))
   ·(repeat' (first
  | refine SP ?_
  | refine a01 (by first | exact beq_self_eq_true _ | decide | rfl) ?_
  | (apply a0g <;> intro hb <;> (try simp only [nS, nT, eq_self, reduceCtorEq] at hb) <;> (try (exfalso; omega)))
  | refine a0l ?_
  | ((first | apply a2d (hs) ); (focus (iterate 2 (all_goals (repeat' (first | exact a0c | refine a0b ?_ ?_ | exact a0a _ _ ))))))
  | (apply a0m (Subtype.mk (5 + 1, a) ⟨by simp, hstep⟩); (focus (rw [hq1, hsx]; apply a0t [some 0, some 1, some 2, some 3, some 4, some 5, some 6, some 7, some 8, some 9, some 10, some 11, some 12, some 13, some 14, some 15, some 16, some 17, some 18, some 19]; (focus (iterate 2 (all_goals (repeat' (first | exact a0q | exact a0e rfl | exact a3f rfl rfl rfl rfl rfl rfl rfl rfl | exact a0x rfl | exact a0c | exact trivial | refine SP ?_ | refine And.intro ?_ ?_ | refine a0b ?_ ?_ | refine a0n ?_ | exact a0d rfl rfl | exact a0i rfl rfl rfl | exact a0a _ _ | exact a0f rfl rfl rfl ))))); any_goals (apply a0h; rfl))); (all_goals (try (first | (simp only; omega)))))
  ))
   ·(repeat' (first
  | refine SP ?_
  | refine a01 (by first | exact beq_self_eq_true _ | decide | rfl) ?_
  | (apply a0g <;> intro hb <;> (try simp only [nS, nT, eq_self, reduceCtorEq] at hb) <;> (try (exfalso; omega)))
  | refine a0l ?_
  | ((first | apply a2d (hs) ); (focus (iterate 2 (all_goals (repeat' (first | exact a0c | refine a0b ?_ ?_ | exact a0a _ _ ))))))
  | (apply a0m (Subtype.mk (6 + 1, a) ⟨by simp, hstep⟩); (focus (rw [hq1, hsx]; apply a0t [some 0, some 1, some 2, some 3, some 4, some 5, some 6, some 7, some 8, some 9, some 10, some 11, some 12, some 13, some 14, some 15, some 16, some 17, some 18, some 19]; (focus (iterate 2 (all_goals (repeat' (first | exact a0q | exact a0e rfl | exact a3f rfl rfl rfl rfl rfl rfl rfl rfl | exact a0x rfl | exact a0c | exact trivial | refine SP ?_ | refine And.intro ?_ ?_ | refine a0b ?_ ?_ | refine a0n ?_ | exact a0d rfl rfl | exact a0i rfl rfl rfl | exact a0a _ _ | exact a0f rfl rfl rfl ))))); any_goals (apply a0h; rfl))); (all_goals (try (first | (simp only; omega)))))
  ))
   ·(repeat' (first
  | refine SP ?_
  | refine a01 (by first | exact beq_self_eq_true _ | decide | rfl) ?_
  | (apply a0g <;> intro hb <;> (try simp only [nS, nT, eq_self, reduceCtorEq] at hb) <;> (try (exfalso; omega)))
  | refine a0l ?_
  | ((first | apply a2d (hs) ); (focus (iterate 2 (all_goals (repeat' (first | exact a0c | refine a0b ?_ ?_ | exact a0a _ _ ))))))
  | (apply a0m (Subtype.mk (7 + 1, a) ⟨by simp, hstep⟩); (focus (rw [hq1, hsx]; apply a0t [some 0, some 1, some 2, some 3, some 4, some 5, some 6, some 7, some 8, some 9, some 10, some 11, some 12, some 13, some 14, some 15, some 16, some 17, some 18, some 19]; (focus (iterate 2 (all_goals (repeat' (first | exact a0q | exact a0e rfl | exact a3f rfl rfl rfl rfl rfl rfl rfl rfl | exact a0x rfl | exact a0c | exact trivial | refine SP ?_ | refine And.intro ?_ ?_ | refine a0b ?_ ?_ | refine a0n ?_ | exact a0d rfl rfl | exact a0i rfl rfl rfl | exact a0a _ _ | exact a0f rfl rfl rfl ))))); any_goals (apply a0h; rfl))); (all_goals (try (first | (simp only; omega)))))
  ))
 ·obtain rfl : x = 8 := by omega
  have h0 := ha 0 (by omega)
  have h1 := ha 1 (by omega)
  have h2 := ha 2 (by omega)
  have h3 := ha 3 (by omega)
  have h4 := ha 4 (by omega)
  have h5 := ha 5 (by omega)
  have h6 := ha 6 (by omega)
  have h7 := ha 7 (by omega)
  rw [if_pos (by omega)] at h0 h1 h2 h3 h4 h5 h6 h7
  unfold a1v
  generalize a16 c 8 = q at *
  (repeat' (first
  | refine SP ?_
  | (apply a0g <;> intro hb <;> (try simp only [nS, nT, eq_self, reduceCtorEq] at hb) <;> (try (exfalso; omega)))
  | refine a0l ?_
  | (apply a1q 0 [some 1, some 2, some 3, some 4, some 5, some 6, some 7, some 8, some 9, some 10, some 11, some 12, some 13, some 14, some 15, some 16, some 17] [some 19] rfl; (focus (iterate 2 (all_goals (repeat' (first | exact a0q | exact a0e rfl | exact a3f rfl rfl rfl rfl rfl rfl rfl rfl | exact a0x rfl | exact a0c | exact trivial | refine SP ?_ | refine And.intro ?_ ?_ | refine a0b ?_ ?_ | refine a0n ?_ | exact a0d rfl rfl | exact a0i rfl rfl rfl | exact a0a _ _ | exact a0f rfl rfl rfl | ((refine a0r ?_); first | with_reducible rfl | omega | ((try simp only [wS]); omega) | rfl) ))))); (any_goals rfl))
  ))
end Go.Vx.L42.B

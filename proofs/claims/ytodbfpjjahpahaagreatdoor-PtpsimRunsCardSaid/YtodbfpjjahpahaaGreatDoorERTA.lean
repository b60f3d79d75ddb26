/- Lemmas of a small executor for the model, and contracts of functions, used for the law that this claim proves. No condition. -/
import Derived.Test.YtodbfpjjahpahaaGreatDoorEW3
import Derived.Test.YtodbfpjjahpahaaGreatDoorEGA
import Derived.Test.YtodbfpjjahpahaaGreatDoorEE0
import Derived.Test.YtodbfpjjahpahaaGreatDoorEEAA
import Derived.Test.YtodbfpjjahpahaaGreatDoorEEPA
import Derived.Test.YtodbfpjjahpahaaGreatDoorEEA7
import Derived.Test.YtodbfpjjahpahaaGreatDoorEEAB
set_option linter.unusedSimpArgs false
set_option linter.unusedVariables false
set_option maxRecDepth 100000
namespace Go.Vx.L58
open Go Go.Proofs
theorem b44 (n a : Int) (l : List Ed) (cap : Option Nat) : Runs Tryz.prog 111 [gA n l cap, .val (.int .i64 a)] [gB l] (Det (.sb (decide (0 <= a /\ a < n))) [gB l]) := by
  refine Runs.mk a0k Tryz.call111 Tryz.func111 rfl Tryz.ntmps111 Tryz.results111 rfl ?_
  (repeat' (first
    | refine SP ?_
    | (apply a0a <;> intro hb <;> (try simp only [nS, nT, eq_self, reduceCtorEq] at hb))
    | (apply a0v [some 0]; (focus (iterate 2 (all_goals (repeat' (first | exact trivial | refine SP ?_ | refine And.intro ?_ ?_ | exact a0j rfl rfl rfl | refine a1m ?_ | refine a0w ?_ ))))); any_goals (apply a0e; rfl))
    ))
  all_goals (simp_all <;> omega)
theorem c2g (p : Int) : Runs Tryz.prog 112 [.val (.int .i64 p)] [] (Det (.sb (decide (1 <= p /\ p <= 8))) []) := by
  refine Runs.mk a0k Tryz.call112 Tryz.func112 rfl Tryz.ntmps112 Tryz.results112 rfl ?_
  (repeat' (first
    | refine SP ?_
    | (apply a0a <;> intro hb <;> (try simp only [nS, nT, eq_self, reduceCtorEq] at hb))
    | (apply a0v []; (focus (iterate 2 (all_goals (repeat' (first | exact trivial | refine And.intro ?_ ?_ | refine a1m ?_ | refine a0w ?_ ))))); any_goals (apply a0e; rfl))
    ))
  all_goals (simp_all <;> omega)
theorem c5g (n : Int) (l : List Ed) (cap : Option Nat) (hl : l.length <= maxLen) (k : Nat) (hk : k <= l.length) (a p : Int) :
    Runs Tryz.prog 113 [gA n l cap, .val (.int .i64 k), .val (.int .i64 a), .val (.int .i64 p)] [gB l] (Det (.sb ((a2b (l.take k)).contains [a, p])) [gB l]) := by
  have hmx : maxLen = 9223372036854775807 := by decide
  refine Runs.mk a0k Tryz.call113 Tryz.func113 rfl Tryz.ntmps113 Tryz.results113 rfl ?_
  (repeat' (first
    | refine SP ?_
    | refine a0c ?_
    ))
  refine a0p (σ := Nat) (fun x => x <= k /\ (a2b (l.take x)).contains [a, p] = false) (fun x => ⟨[(1, .val (.int .i64 k)), (2, .val (.int .i64 a)), (3, .val (.int .i64 p)), (4, .ptr 1 2 0 0), (9, .val (.int .i64 x))], [gB l, .var [.val (.int .i64 n), .sl 0 4 0 l.length cap]]⟩) (fun x => k - x) (0) ?_ ?_ ?_
  · simp [a2b]
  · exact LT [some 0, some 1]
  rintro x ⟨hx, ht⟩
  have he := fun h => b0n (l := l) (k := x) h
  have hmono : ∀ c, c ∈ a2b (l.take (x + 1)) -> x < k -> c ∈ a2b (l.take k) := fun c hc hxk => by
    rw [b3k] at hc ⊢
    obtain ⟨e, h1, h2⟩ := hc
    refine ⟨e, ?_, h2⟩
    have h3 : l.take (x + 1) = (l.take k).take (x + 1) := by rw [List.take_take]; congr 1; omega
    rw [h3] at h1
    exact List.mem_of_mem_take h1
  have hyes : ((l.getD x ed0).a = a /\ (l.getD x ed0).pa = p) \/ ((l.getD x ed0).b = a /\ (l.getD x ed0).pb = p) -> x < k -> true = (a2b (l.take k)).contains [a, p] := fun h hxk => by
    refine (List.contains_iff_mem.2 (hmono _ ?_ hxk)).symm
    rw [he (by omega), List.mem_append]
    rcases h with ⟨rfl, rfl⟩ | ⟨rfl, rfl⟩ <;> simp
  have hno : ¬((l.getD x ed0).a = a /\ (l.getD x ed0).pa = p) -> ¬((l.getD x ed0).b = a /\ (l.getD x ed0).pb = p) -> x < k -> (a2b (l.take (x + 1))).contains [a, p] = false := fun h1 h2 hxk => by
    rw [Bool.eq_false_iff] at ht ⊢
    intro q
    rw [List.contains_iff_mem, he (by omega), List.mem_append] at q
    rcases q with q | q
    · exact ht (List.contains_iff_mem.2 q)
    · simp only [List.mem_cons, List.cons.injEq, and_true, List.not_mem_nil, or_false] at q
      rcases q with ⟨q1, q2⟩ | ⟨q1, q2⟩
      · exact h1 ⟨q1.symm, q2.symm⟩
      · exact h2 ⟨q1.symm, q2.symm⟩
  (repeat' (first
    | refine SP ?_
    | (apply a0a <;> intro hb <;> (try simp only [nS, nT, eq_self, reduceCtorEq] at hb))
    | refine a0c ?_
    | refine OB ?_
    | (apply a0v [some 0]; (focus (iterate 2 (all_goals (repeat' (first | exact trivial | refine SP ?_ | refine And.intro ?_ ?_ | exact a0j rfl rfl rfl | refine a0w ?_ ))))); any_goals (apply a0e; rfl))
    | (apply a0i (Subtype.mk (x + 1) _); (focus (apply a04 [some 0, some 1]; (focus (iterate 2 (all_goals (repeat' (first | exact a0g | exact trivial | refine SP ?_ | refine And.intro ?_ ?_ | refine a0d ?_ ?_ | refine a09 ?_ | exact a0z rfl rfl | exact a0r rfl rfl rfl | exact a0b _ _ | exact a0j rfl rfl rfl | ((refine a0f ?_); first | with_reducible rfl | omega | ((try simp only [wS]); omega) | rfl) ))))); any_goals (apply a0e; rfl))); (all_goals (try (first | (simp only; omega)))))
    ))
  all_goals (try simp only [Nat.zero_add, Int.toNat_natCast] at *)
  all_goals first
    | exact hyes (.inl ⟨by assumption, by assumption⟩) (by omega)
    | exact hyes (.inr ⟨by assumption, by assumption⟩) (by omega)
    | (refine hno (fun q => ?_) (fun q => ?_) (by omega) <;> (obtain ⟨q1, q2⟩ := q; contradiction))
    | (have : x = k := by omega
       subst this; exact ht.symm)
theorem b5t (n : Int) (l : List Ed) (cap : Option Nat) (hl : l.length <= maxLen) :
    Runs Tryz.prog 67 [gA n l cap] [gB l] (Det (.val (.int .i64 (ckC n l))) [gB l]) := by
  have hmx : maxLen = 9223372036854775807 := by decide
  refine Runs.mk a0k Tryz.call67 Tryz.func67 rfl Tryz.ntmps67 Tryz.results67 rfl ?_
  (repeat' (first
    | refine SP ?_
    | (apply a0a <;> intro hb <;> (try simp only [nS, nT, eq_self, reduceCtorEq] at hb))
    | refine a0c ?_
    | (apply a0v [some 0]; (focus (iterate 2 (all_goals (repeat' (first | exact trivial | refine SP ?_ | refine And.intro ?_ ?_ | exact a0j rfl rfl rfl | refine a0f ?_ ))))); any_goals (apply a0e; rfl))
    ))
  · simp [ckC]; omega
  · simp [ckC]; omega
  · simp [ckC]; omega
  refine a0p (σ := Nat) (fun x => x <= l.length /\ ckL n (l.drop x) (a2b (l.take x)) = ckL n l []) (fun x => ⟨[(1, .ptr 1 2 0 0), (3, .val (.int .i64 x))], [gB l, .var [.val (.int .i64 n), .sl 0 4 0 l.length cap]]⟩) (fun x => l.length - x) (0) ?_ ?_ ?_
  · simp [a2b]
  · exact LT [some 0, some 1]
  rintro k ⟨hk, ht⟩
  have hC : ckC n l = ckL n l [] := by unfold ckC; rw [if_neg (by omega), if_neg (by omega)]
  have hd := drop_cons l k ed0
  have he := fun h => b0n (l := l) (k := k) h
  have hE : ∀ a p : Int, a6r n a p = (decide (0 <= a /\ a < n) && decide (1 <= p /\ p <= 8)) := fun a p => by
    unfold a6r; rw [Bool.eq_iff_iff]; simp [and_assoc]
  (repeat' (first
    | refine SP ?_
    | (apply a0a <;> intro hb <;> (try simp only [nS, nT, eq_self, reduceCtorEq] at hb))
    | refine a0c ?_
    | refine OB ?_
    | ((first | apply a1z (b44 _ _ _ _) ); exact AS; (try (any_goals fail)))
    | ((first | apply a0t (c2g _) ); exact AS)
    | ((first | apply a1z (c5g _ _ _ hl _ hk _ _) ); exact AS; (try (any_goals fail)))
    | (apply a0v [some 0]; (focus (iterate 2 (all_goals (repeat' (first | exact trivial | refine SP ?_ | refine And.intro ?_ ?_ | exact a0j rfl rfl rfl | refine a0f ?_ ))))); any_goals (apply a0e; rfl))
    | (apply a0i (Subtype.mk (k + 1) _); (focus (apply a04 [some 0, some 1]; (focus (iterate 2 (all_goals (repeat' (first | exact a0g | exact trivial | refine SP ?_ | refine And.intro ?_ ?_ | refine a0d ?_ ?_ | refine a09 ?_ | exact a0z rfl rfl | exact a0r rfl rfl rfl | exact a0b _ _ | exact a0j rfl rfl rfl | ((refine a0f ?_); first | with_reducible rfl | omega | ((try simp only [wS]); omega) | rfl) ))))); any_goals (apply a0e; rfl))); (all_goals (try (first | (simp only; omega)))))
    ))
  all_goals (try simp only [Nat.zero_add, Int.toNat_natCast] at *)
  · rw [hC, <- ht, hd (by omega)]; simp only [ckL]; rw [if_pos]; simp [a6r] at *; intros; omega
  · rw [hC, <- ht, hd (by omega)]; simp only [ckL]; rw [if_pos]; simp [a6r] at *; intros; omega
  · rw [hC, <- ht, hd (by omega)]; simp only [ckL]; rw [if_pos]; simp [a6r] at *; intros; omega
  · rw [hC, <- ht, hd (by omega)]; simp only [ckL]; rw [if_pos]; simp [a6r] at *; intros; omega
  · rename_i h1 h2 h3 h4
    have e1 : a6r n (l.getD k ed0).a (l.getD k ed0).pa = true := decide_eq_true ⟨h1.1, h1.2, h3.1, h3.2⟩
    have e2 : a6r n (l.getD k ed0).b (l.getD k ed0).pb = true := decide_eq_true ⟨h2.1, h2.2, h4.1, h4.2⟩
    rw [hC, <- ht, hd (by omega)]
    simp only [ckL, e1, e2, if_pos hb, Bool.and_true, Bool.not_true, Bool.false_eq_true, if_false]
  · rename_i h1 h2 h3 h4 h5
    have e1 : a6r n (l.getD k ed0).a (l.getD k ed0).pa = true := decide_eq_true ⟨h1.1, h1.2, h3.1, h3.2⟩
    have e2 : a6r n (l.getD k ed0).b (l.getD k ed0).pb = true := decide_eq_true ⟨h2.1, h2.2, h4.1, h4.2⟩
    rw [hC, <- ht, hd (by omega)]
    simp only [ckL, e1, e2, h5, hb, Bool.and_true, Bool.not_true, Bool.false_eq_true, if_false, Bool.true_or, if_true]
  · rename_i h1 h2 h3 h4 h5 h6
    have e1 : a6r n (l.getD k ed0).a (l.getD k ed0).pa = true := decide_eq_true ⟨h1.1, h1.2, h3.1, h3.2⟩
    have e2 : a6r n (l.getD k ed0).b (l.getD k ed0).pb = true := decide_eq_true ⟨h2.1, h2.2, h4.1, h4.2⟩
    rw [hC, <- ht, hd (by omega)]
    simp only [ckL, e1, e2, h5, h6, hb, Bool.and_true, Bool.not_true, Bool.false_eq_true, if_false, Bool.or_true, if_true]
  · rename_i h1 h2 h3 h4 h5 h6
    have e1 : a6r n (l.getD k ed0).a (l.getD k ed0).pa = true := decide_eq_true ⟨h1.1, h1.2, h3.1, h3.2⟩
    have e2 : a6r n (l.getD k ed0).b (l.getD k ed0).pb = true := decide_eq_true ⟨h2.1, h2.2, h4.1, h4.2⟩
    rw [<- ht, hd (by omega), he (by omega)]
    simp only [ckL, e1, e2, h5, h6, hb, Bool.and_true, Bool.not_true, Bool.false_eq_true, if_false, Bool.or_false]
  · rw [hC, <- ht, List.drop_of_length_le (by omega)]; rfl
theorem a9d (n : Int) (l : List Ed) (cap : Option Nat) (hl : l.length <= maxLen) (a p : Int) :
    Runs Tryz.prog 70 [gA n l cap, .val (.int .i64 a), .val (.int .i64 p)] [gB l] (Det (d4i (a1h n l a p)) [gB l]) := by
  have hmx : maxLen = 9223372036854775807 := by decide
  refine Runs.mk a0k Tryz.call70 Tryz.func70 rfl Tryz.ntmps70 Tryz.results70 rfl ?_
  (repeat' (first
    | refine SP ?_
    | (apply a0a <;> intro hb <;> (try simp only [nS, nT, eq_self, reduceCtorEq] at hb))
    | refine a0c ?_
    | ((first | apply a1z (b5t _ _ _ hl) ); exact AS; (try (any_goals fail)))
    | ((first | apply a1z (b44 _ _ _ _) ); exact AS; (try (any_goals fail)))
    | (apply a0v [some 0]; (focus (iterate 2 (all_goals (repeat' (first | exact a0g | exact trivial | refine SP ?_ | refine And.intro ?_ ?_ | refine a0d ?_ ?_ | refine a1c ?_ | exact a0j rfl rfl rfl | refine a0f ?_ | refine a0w ?_ ))))); any_goals (apply a0e; rfl))
    ))
  all_goals (try (unfold a1h hasB; rw [if_neg (by simp only [decide_eq_true_eq]; omega)]; done))
  refine a0p (σ := Nat) (fun x => x <= l.length /\ a2d (l.drop x) a p = a2d l a p) (fun x => ⟨[(1, .val (.int .i64 a)), (2, .val (.int .i64 p)), (3, .ptr 1 2 0 0), (9, .val (.int .i64 x))], [gB l, .var [.val (.int .i64 n), .sl 0 4 0 l.length cap]]⟩) (fun x => l.length - x) (0) ?_ ?_ ?_
  · simp
  · exact LT [some 0, some 1]
  rintro k ⟨hk, ht⟩
  rename_i hc
  have hC : a1h n l a p = a2d l a p := by unfold a1h hasB; rw [if_pos (decide_eq_true ⟨by omega, by omega, by omega⟩)]
  have hd := drop_cons l k ed0
  clear hb
  (repeat' (first
    | refine SP ?_
    | (apply a0a <;> intro hb <;> (try simp only [nS, nT, eq_self, reduceCtorEq] at hb))
    | refine a0q (by decide +kernel) ?_
    | refine a0c ?_
    | refine OB ?_
    | (apply a0v [some 0]; (focus (iterate 2 (all_goals (repeat' (first | exact a0g | exact trivial | refine SP ?_ | refine And.intro ?_ ?_ | refine a0d ?_ ?_ | refine a1c ?_ | exact a0j rfl rfl rfl | refine a0f ?_ | refine a0w ?_ ))))); any_goals (apply a0e; rfl))
    | (apply a0i (Subtype.mk (k + 1) _); (focus (apply a04 [some 0, some 1]; (focus (iterate 2 (all_goals (repeat' (first | exact a0g | exact trivial | refine SP ?_ | refine And.intro ?_ ?_ | refine a0d ?_ ?_ | refine a09 ?_ | exact a0z rfl rfl | exact a0r rfl rfl rfl | exact a0b _ _ | exact a0j rfl rfl rfl | ((refine a0f ?_); first | with_reducible rfl | omega | ((try simp only [wS]); omega) | rfl) ))))); any_goals (apply a0e; rfl))); (all_goals (try (first | (simp only; omega)))))
    ))
  all_goals (try simp only [Nat.zero_add, Int.toNat_natCast] at *)
  all_goals (try rw [hC])
  all_goals (rw [<- ht])
  all_goals first
    | (rw [hd (by omega)]; simp_all [a2d]; done)
    | (rw [List.drop_of_length_le (by omega)]; rfl)
    | fail
set_option maxHeartbeats 1000000 in
theorem c3e (n : Int) (l : List Ed) (cap : Option Nat) (hl : l.length <= maxLen) (a : Int) :
    Runs Tryz.prog 190 [gA n l cap, .val (.int .i64 a)] [gB l] (Det (.sl 1 1 0 (rpL n l a 8).length none) [gB l, iB true (rpL n l a 8)]) := by
  refine Runs.mk a0k Tryz.call190 Tryz.func190 rfl Tryz.ntmps190 Tryz.results190 rfl ?_
  (repeat' (first
    | refine SP ?_
    | refine a0c ?_
    ))
  refine a0p (σ := Nat) (fun x => x <= 8) (fun x => ⟨[(1, .val (.int .i64 a)), (2, .ptr 1 2 0 0), (5, .sl 2 1 0 (rpL n l a x).length none), (6, .val (.int .i64 (x + 1)))], [gB l, .var [.val (.int .i64 n), .sl 0 4 0 l.length cap], iB true (rpL n l a x)]⟩) (fun x => 8 - x) (0) ?_ ?_ ?_
  · omega
  · exact LT [some 0, some 1, none]
    all_goals (try rfl)
  rintro x hx
  have hs := c6a n l a x
  have hlen := c4h n l a x
  (repeat' (first
    | refine SP ?_
    | (apply a0a <;> intro hb <;> (try simp only [nS, nT, eq_self, reduceCtorEq] at hb))
    | refine a0c ?_
    | refine OB ?_
    | ((first | apply a1z (a9d n l cap hl _ _) ); exact AS; (try (any_goals fail)))
    ))
  · rw [if_pos hb] at hs
    (apply a0i (Subtype.mk (x + 1) _); (focus (apply a04 [some 0, some 1, some 4]; (focus (iterate 2 (all_goals (repeat' (first | exact a0g | exact trivial | refine SP ?_ | refine And.intro ?_ ?_ | refine a0d ?_ ?_ | refine a09 ?_ | exact a0z rfl rfl | exact a0r rfl rfl rfl | exact a0b _ _ | exact a0j rfl rfl rfl | ((first | refine a0f ?_ | refine a0r rfl rfl ?_ | show (_ : Nat) = _); first | with_reducible rfl | omega | ((try simp only [wS]); omega) | rfl) | apply a3l | refine a0o ?_ ?_ | exact a3c | (refine And.left (b := True) ⟨?_, True.intro⟩; assumption) | refine a0r rfl rfl ?_ ))))); any_goals (apply a0e; rfl))); (all_goals (try (first | omega | (simp only; omega)))))
    all_goals (simp only [hs, List.length_append, List.length_singleton])
  · rw [if_neg (by rw [hb]; decide), List.append_nil] at hs
    (apply a0i (Subtype.mk (x + 1) _); (focus (apply a04 [some 0, some 1, some 2]; (focus (iterate 2 (all_goals (repeat' (first | exact a0g | exact trivial | refine SP ?_ | refine And.intro ?_ ?_ | refine a0d ?_ ?_ | refine a09 ?_ | exact a0z rfl rfl | exact a0r rfl rfl rfl | exact a0b _ _ | exact a0j rfl rfl rfl | ((first | refine a0f ?_ | refine a0r rfl rfl ?_ | show (_ : Nat) = _); first | with_reducible rfl | omega | ((try simp only [wS]); omega) | rfl) | refine a0r rfl rfl ?_ | refine a0j rfl ?_ ?_ ))))); any_goals (apply a0e; rfl))); (all_goals (try (first | omega | (simp only; omega)))))
    all_goals (simp only [hs])
  · have : x = 8 := by omega
    subst this
    (repeat' (first
    | exact RT [some 0, some 2]
    ))
end Go.Vx.L58
set_option maxRecDepth 100000
namespace Go.Vx.L58
open Go Go.Proofs
def cmF (x y : Int) : Int := if x < y then -1 else if y < x then 1 else 0
theorem b65 (x y : Int) : Runs Tryz.prog 192 [.val (.int .i64 x), .val (.int .i64 y)] [] (Det (.val (.int .i64 (cmF x y))) []) := by
 refine Runs.mk a0k Tryz.call192 Tryz.func192 rfl Tryz.ntmps192 Tryz.results192 rfl ?_
 (repeat' (first
  | refine SP ?_
  | (apply a0a <;> intro hb <;> (try simp only [nS, nT, eq_self, reduceCtorEq] at hb) <;> (try (exfalso; omega)))
  | refine a0c ?_
  | (apply a0v []; (focus (iterate 2 (all_goals (repeat' (first | exact trivial | refine And.intro ?_ ?_ | refine a0f ?_ ))))); any_goals (apply a0e; rfl))
  ))
 all_goals (unfold cmF; (repeat' split) <;> first | rfl | (exfalso; omega))
theorem a8l (x y : Int) : Runs Tryz.prog 193 [.val (.int .u64 x), .val (.int .u64 y)] [] (Det (.val (.int .i64 (cmF x y))) []) := by
 refine Runs.mk a0k Tryz.call193 Tryz.func193 rfl Tryz.ntmps193 Tryz.results193 rfl ?_
 (repeat' (first
  | refine SP ?_
  | (apply a0a <;> intro hb <;> (try simp only [nS, nT, eq_self, reduceCtorEq] at hb) <;> (try (exfalso; omega)))
  | refine a0c ?_
  | (apply a0v []; (focus (iterate 2 (all_goals (repeat' (first | exact trivial | refine And.intro ?_ ?_ | refine a0f ?_ ))))); any_goals (apply a0e; rfl))
  ))
 all_goals (unfold cmF; (repeat' split) <;> first | rfl | (exfalso; omega))
def orF (a b : DS) : Int := if a.p1 < b.p1 then -1 else if b.p1 < a.p1 then 1 else if a.cl < b.cl then -1 else if b.cl < a.cl then 1 else if a.ac < b.ac then -1 else if b.ac < a.ac then 1 else
 if a.va < b.va then -1 else if b.va < a.va then 1 else if a.p2 < b.p2 then -1 else if b.p2 < a.p2 then 1 else cmF a.gm b.gm
set_option maxHeartbeats 2000000 in
theorem c7d (a b : DS) : Runs Tryz.prog 191 [aD a, aD b] [] (Det (.val (.int .i64 (orF a b))) []) := by
 have hn := a8l a.gm b.gm
 unfold orF
 generalize cmF a.gm b.gm = c at *
 refine Runs.mk a0k Tryz.call191 Tryz.func191 rfl Tryz.ntmps191 Tryz.results191 rfl ?_
 (repeat' (first
  | refine SP ?_
  | refine a18 (by first | exact beq_self_eq_true _ | decide) ?_
  | refine a1d (by decide) ?_
  | (apply a0a <;> intro hb <;> (try simp only [nS, nT, eq_self, reduceCtorEq] at hb) <;> (try (exfalso; omega)))
  | refine a0q (by decide +kernel) ?_
  | refine a0c ?_
  | refine OB ?_
  | (refine b6g 6 ?_)
  | ((first | apply a0t (hn) ); exact AS)
  | exact RT []
  ))
 all_goals ((repeat' split) <;> first | rfl | (exfalso; omega))
theorem b47 (x y : Int) : (x < y /\ cmF x y = -1) \/ (y < x /\ cmF x y = 1) \/ (x = y /\ cmF x y = 0) := by
 unfold cmF; by_cases h1 : x < y
 ·rw [if_pos h1]; exact .inl ⟨h1, rfl⟩
 ·rw [if_neg h1]; by_cases h2 : y < x
  ·rw [if_pos h2]; exact .inr (.inl ⟨h2, rfl⟩)
  ·rw [if_neg h2]; exact .inr (.inr ⟨by omega, rfl⟩)
def cqF (c d : Int) : Int := if c ≠ 0 then c else d
def cmL : List Int -> List Int -> Int
 | x :: a, y :: b => cqF (cmF x y) (cmL a b)
 | _, _ => 0
theorem c2l : ∀ a b : List Int, lexB a b = decide (cmL a b < 0)
 | [], _ => rfl
 | _ :: _, [] => rfl
 | x :: a, y :: b => by
  rw [lexB, cmL, c2l a b]
  unfold cqF
  rcases b47 x y with ⟨h, e⟩ | ⟨h, e⟩ | ⟨h, e⟩
  ·rw [if_pos h, e]; rfl
  ·rw [if_neg (by omega), if_pos h, e]; rfl
  ·rw [if_neg (by omega), if_neg (by omega), e, if_neg (by omega)]
theorem d6d (x y r : Int) : (if x < y then -1 else if y < x then 1 else r) = cqF (cmF x y) r := by
 unfold cqF
 rcases b47 x y with ⟨h, e⟩ | ⟨h, e⟩ | ⟨h, e⟩
 ·rw [if_pos h, e]; rfl
 ·rw [if_neg (by omega), if_pos h, e]; rfl
 ·rw [if_neg (by omega), if_neg (by omega), e, if_neg (by omega)]
theorem c3y (c : Int) : cqF c 0 = c := by unfold cqF; split <;> omega
theorem c6s (a b c : Int) : cqF (cqF a b) c = cqF a (cqF b c) := by unfold cqF; (repeat' split) <;> first | rfl | omega
theorem d3e (a b : DS) : orF a b = cmL a.mk6 b.mk6 := by
 unfold orF DS.mk6
 simp only [cmL, d6d, c3y]
def lsC (a b : DS) : Int := if orF a b ≠ 0 then orF a b else if cmF a.st b.st ≠ 0 then cmF a.st b.st else if cmF a.se b.se ≠ 0 then cmF a.se b.se else if cmF a.sp b.sp ≠ 0 then cmF a.sp b.sp else if cmF a.re b.re ≠ 0 then cmF a.re b.re else cmF a.rp b.rp
theorem d3z (a b : DS) : a1r a b = decide (lsC a b < 0) := by
 have e : lsC a b = cqF (orF a b) (cqF (cmF a.st b.st) (cqF (cmF a.se b.se) (cqF (cmF a.sp b.sp) (cqF (cmF a.re b.re) (cmF a.rp b.rp))))) := rfl
 rw [e, d3e]
 unfold a1r DS.ks
 rw [c2l]
 unfold DS.tl5 DS.mk6
 simp only [List.cons_append, List.nil_append, cmL, c6s, c3y]
set_option maxHeartbeats 2000000 in
theorem a9a (a b : DS) : Runs Tryz.prog 163 [aD a, aD b] [] (Det (.sb (a1r a b)) []) := by
 rw [d3z]
 unfold lsC
 have h0 := c7d a b
 have h1 := b65 a.st b.st
 have h2 := a8l a.se b.se
 have h3 := b65 a.sp b.sp
 have h4 := a8l a.re b.re
 have h5 := b65 a.rp b.rp
 generalize orF a b = c0 at *
 generalize cmF a.st b.st = c1 at *
 generalize cmF a.se b.se = c2 at *
 generalize cmF a.sp b.sp = c3 at *
 generalize cmF a.re b.re = c4 at *
 generalize cmF a.rp b.rp = c5 at *
 refine Runs.mk a0k Tryz.call163 Tryz.func163 rfl Tryz.ntmps163 Tryz.results163 rfl ?_
 (repeat' (first
  | refine SP ?_
  | (apply a0a <;> intro hb <;> (try simp only [nS, nT, eq_self, reduceCtorEq] at hb) <;> (try (exfalso; omega)))
  | refine a0c ?_
  | ((first | apply a0t (h0) ); exact AS)
  | ((first | apply a0t (h1) ); exact AS)
  | ((first | apply a0t (h2) ); exact AS)
  | ((first | apply a0t (h3) ); exact AS)
  | ((first | apply a0t (h4) ); exact AS)
  | ((first | apply a0t (h5) ); exact AS)
  | (apply a0v []; (focus (iterate 2 (all_goals (repeat' (first | exact trivial | refine And.intro ?_ ?_ | refine a1m ?_ ))))); any_goals (apply a0e; rfl))
  ))
 all_goals (congr 1; apply propext; (repeat' split) <;> omega)
end Go.Vx.L58
set_option maxRecDepth 100000
namespace Go.Vx.L58
open Go Go.Proofs
set_option maxHeartbeats 1000000 in
theorem c5t (ps : List (Option DS)) (cap : Option Nat) (hn : ps.length <= 1000) : Runs Tryz.prog 135 [.sl 0 12 0 ps.length cap] [pB ps] (Det (.val (.int .i64 (a2w ps))) [pB ps]) := by
 refine Runs.mk a0k Tryz.call135 Tryz.func135 rfl Tryz.ntmps135 Tryz.results135 rfl ?_
 (repeat' (first
  | (intro Q h; refine h ?_; clear h Q)
  | refine a0c ?_
  ))
 refine a0p (σ := Nat) (fun x => x <= ps.length) (fun x => ⟨[(0, .sl 0 12 0 ps.length cap), (3, .val (.int .i64 (bst ps x))), (4, .val (.int .i64 x))], [pB ps]⟩) (fun x => ps.length - x) (0) ?_ ?_ ?_
 ·omega
 ·exact LT [some 0]
 rintro x hx
 by_cases hxl : x < ps.length
 ·have hz : 0 + Int.toNat (x : Int) = x := by omega
  have hs : bst ps (x + 1) = if a3x ps x = true /\ (bst ps x < 0 \/ a1r (a1p ps x) (a1p ps (bst ps x).toNat) = true) then (x : Int) else bst ps x := rfl
  obtain ⟨b0, b1⟩ := b13 ps x
  have hl := a9a (a1p ps x) (a1p ps (bst ps x).toNat)
  have hh : (ps.getD (0 + Int.toNat (x : Int)) none).isSome = a3x ps x := by rw [hz]
  cases hc : a3x ps x
  ·rw [hc] at hh
   rw [hc, if_neg (fun h => by cases h.1)] at hs
   generalize bst ps x = b at *
   (repeat' (first
  | (intro Q h; refine h ?_; clear h Q)
  | (refine a0a (fun hb => ?_) (fun hb => ?_) <;> (try simp only [nS, nT, eq_self, reduceCtorEq] at hb) <;> (try (exfalso; (first | omega | (rw [hh] at hb; cases hb)); done)))
  | refine a0q (by decide +kernel) ?_
  | refine a0c ?_
  | refine And.intro (by first | omega | ((try simp only [wS]); omega) | rfl | decide) ?_
  | (apply a0i (Subtype.mk (x + 1) (by first | omega | (simp only; omega))); (focus (rw [hs]; exact LT [some 0])); (all_goals (try (first | (simp only; omega)))))
  ))
  ·rw [hc] at hh
   have hlt : ∀ y : Int, y < 0 -> bst ps x = y -> bst ps (x + 1) = x := fun y h1 h2 => by rw [hs, if_pos ⟨hc, .inl (by omega)⟩]
   have hs1 : 0 <= bst ps x -> a1r (a1p ps x) (a1p ps (bst ps x).toNat) = true -> bst ps (x + 1) = x := fun h1 h2 => by rw [hs, if_pos ⟨hc, .inr h2⟩]
   have hs0 : 0 <= bst ps x -> a1r (a1p ps x) (a1p ps (bst ps x).toNat) = false -> bst ps (x + 1) = bst ps x := fun h1 h2 => by
    rw [hs, if_neg]; rintro ⟨_, h | h⟩
    ·omega
    ·rw [h2] at h; cases h
   clear hs
   generalize bst ps x = b at *
   by_cases hb0 : b < 0
   ·have hs := hlt b hb0 rfl
    (repeat' (first
  | (intro Q h; refine h ?_; clear h Q)
  | (refine a0a (fun hb => ?_) (fun hb => ?_) <;> (try simp only [nS, nT, eq_self, reduceCtorEq] at hb) <;> (try (exfalso; (first | omega | (rw [hh] at hb; cases hb)); done)))
  | refine a0q (by decide +kernel) ?_
  | refine a0c ?_
  | refine And.intro (by first | omega | ((try simp only [wS]); omega) | rfl | decide) ?_
  | (apply a0i (Subtype.mk (x + 1) (by first | omega | (simp only; omega))); (focus (rw [hs]; exact LT [some 0])); (all_goals (try (first | (simp only; omega)))))
  ))
   ·cases hd : a1r (a1p ps x) (a1p ps b.toNat)
    ·have hs := hs0 (by omega) hd
     rw [hd] at hl
     rw [<- hz, <- Nat.zero_add b.toNat] at hl
     (repeat' (first
  | (intro Q h; refine h ?_; clear h Q)
  | refine a1d (by decide) ?_
  | (refine a0a (fun hb => ?_) (fun hb => ?_) <;> (try simp only [nS, nT, eq_self, reduceCtorEq] at hb) <;> (try (exfalso; (first | omega | (rw [hh] at hb; cases hb)); done)))
  | refine a0q (by decide +kernel) ?_
  | refine a0c ?_
  | refine And.intro (by first | omega | ((try simp only [wS]); omega) | rfl | decide) ?_
  | ((first | apply a1l (hl)); exact AS)
  | (apply a0i (Subtype.mk (x + 1) (by first | omega | (simp only; omega))); (focus (rw [hs]; exact LT [some 0])); (all_goals (try (first | (simp only; omega)))))
  ))
    ·have hs := hs1 (by omega) hd
     rw [hd] at hl
     rw [<- hz, <- Nat.zero_add b.toNat] at hl
     (repeat' (first
  | (intro Q h; refine h ?_; clear h Q)
  | refine a18 (by first | exact beq_self_eq_true _ | decide) ?_
  | (refine a0a (fun hb => ?_) (fun hb => ?_) <;> (try simp only [nS, nT, eq_self, reduceCtorEq] at hb) <;> (try (exfalso; (first | omega | (rw [hh] at hb; cases hb)); done)))
  | refine a0q (by decide +kernel) ?_
  | refine a0c ?_
  | refine And.intro (by first | omega | ((try simp only [wS]); omega) | rfl | decide) ?_
  | ((first | apply a1l (hl)); exact AS)
  | (apply a0i (Subtype.mk (x + 1) (by first | omega | (simp only; omega))); (focus (rw [hs]; exact LT [some 0])); (all_goals (try (first | (simp only; omega)))))
  ))
 ·have hx' : x = ps.length := by omega
  subst hx'
  rw [show bst ps ps.length = a2w ps from rfl]
  (repeat' (first
  | (intro Q h; refine h ?_; clear h Q)
  | (refine a0a (fun hb => ?_) (fun hb => ?_) <;> (try simp only [nS, nT, eq_self, reduceCtorEq] at hb) <;> (try (exfalso; omega)))
  | refine a0c ?_
  | exact RT [some 0]
  ))
theorem b68 (b own h : DS) (i : Nat) (hi : i < 1000) (hs : 0 <= b.st /\ b.st <= 1000000) : Runs Tryz.prog 164 [aD b, aD own, aD h, .val (.int .i64 ((i : Int) + 1))] [] (Det (aD (b2q b own i h)) []) := by
 refine Runs.mk a0k Tryz.call164 Tryz.func164 rfl Tryz.ntmps164 Tryz.results164 rfl ?_
 (repeat' (first
  | (intro Q h; refine h ?_; clear h Q)
  | (refine a0a (fun hb => ?_) (fun hb => ?_) <;> (try simp only [nS, nT, eq_self, reduceCtorEq] at hb) <;> (try (exfalso; omega)))
  | refine a0c ?_
  | (apply a0v []; (focus (iterate 2 (all_goals (repeat' (first | exact a0g | exact trivial | refine And.intro ?_ ?_ | refine a0d ?_ ?_ | refine a1i ?_ | exact a0b _ _ | refine a0f ?_ ))))); any_goals (apply a0e; rfl))
  ))
 all_goals exact a8c (by omega) (by omega)
theorem d0q (c : Int) : Runs Tryz.prog 160 [.val (.int .i64 c)] [] (Det (.sb (ann c)) []) := by
 refine Runs.mk a0k Tryz.call160 Tryz.func160 rfl Tryz.ntmps160 Tryz.results160 rfl ?_
 (repeat' (first
  | (intro Q h; refine h ?_; clear h Q)
  | (refine a0a (fun hb => ?_) (fun hb => ?_) <;> (try simp only [nS, nT, eq_self, reduceCtorEq] at hb) <;> (try (exfalso; fail; done)))
  | (apply a0v []; (focus (iterate 2 (all_goals (repeat' (first | exact trivial | refine And.intro ?_ ?_ | refine a1m ?_ | refine a0w ?_ ))))); any_goals (apply a0e; rfl))
  ))
 all_goals (unfold ann; first | (simp_all; done) | (simp_all; rfl))
theorem c6h (own : DS) (ps : List (Option DS)) (cap : Option Nat) (hn : ps.length <= 1000) (hw : wfP ps) (hcl : 127 < own.cl) (x : Nat) (hxl : x < ps.length) :
  Runs Tryz.prog 136 [aD own, .sl 0 12 0 ps.length cap, .val (.int .i64 (a2w ps)), .val (.int .i64 x)] [pB ps] (Det (.val (.int .i64 (a4v own ps x))) [pB ps]) := by
 obtain ⟨b0, b1⟩ := b13 ps ps.length
 rw [show bst ps ps.length = a2w ps from rfl] at b0 b1
 have hz : 0 + Int.toNat (x : Int) = x := by omega
 cases hS : a2u own ps
 ·have hS' := hS
  unfold a2u at hS'
  rw [Bool.or_eq_false_iff, decide_eq_false_iff_not] at hS'
  obtain ⟨s1, s2⟩ := hS'
  have hl1 := a9a own (a1p ps (a2w ps).toNat)
  rw [s2] at hl1
  have hfu := b68 (a1p ps (a2w ps).toNat) own (a1p ps x) x (by omega) (hw _).2
  have hl2 := a9a (b2q (a1p ps (a2w ps).toNat) own x (a1p ps x)) (a1p ps x)
  have hco : a4v own ps x = if (x : Int) = a2w ps then 6 else if a3x ps x = false \/ a1r (b2q (a1p ps (a2w ps).toNat) own x (a1p ps x)) (a1p ps x) = true then 3 else 5 := by
   unfold a4v; rw [if_neg (by rw [hS]; simp)]
  by_cases hxb : (x : Int) = a2w ps
  ·rw [if_pos hxb] at hco
   rw [hco]
   clear hl2 hfu hco
   generalize a2w ps = b at *
   rw [<- Nat.zero_add b.toNat] at hl1
   refine Runs.mk a0k Tryz.call136 Tryz.func136 rfl Tryz.ntmps136 Tryz.results136 rfl ?_
   (repeat' (first
  | (intro Q h; refine h ?_; clear h Q)
  | (with_reducible refine a07 ?_)
  | (refine a0a (fun hb => ?_) (fun hb => ?_) <;> (try simp only [nS, nT, eq_self, reduceCtorEq] at hb) <;> (try (exfalso; omega)))
  | refine a0q (by decide +kernel) ?_
  | refine a0c ?_
  | refine And.intro (by first | omega | ((try simp only [wS]); omega) | rfl | decide) ?_
  | ((first | apply a1l (hl1)); exact AS)
  | exact RT [some 0]
  ))
  ·rw [if_neg hxb] at hco
   cases hc : a3x ps x
   ·rw [if_pos (.inl hc)] at hco
    rw [hco]
    have hh : (ps.getD (0 + Int.toNat (x : Int)) none).isSome = false := by rw [hz]; exact hc
    clear hl2 hfu hco
    generalize a2w ps = b at *
    rw [<- Nat.zero_add b.toNat] at hl1
    refine Runs.mk a0k Tryz.call136 Tryz.func136 rfl Tryz.ntmps136 Tryz.results136 rfl ?_
    (repeat' (first
  | (intro Q h; refine h ?_; clear h Q)
  | (with_reducible refine a07 ?_)
  | (refine a0a (fun hb => ?_) (fun hb => ?_) <;> (try simp only [nS, nT, eq_self, reduceCtorEq] at hb) <;> (try (exfalso; (first | omega | (rw [hh] at hb; cases hb)); done)))
  | refine a0q (by decide +kernel) ?_
  | refine a0c ?_
  | refine And.intro (by first | omega | ((try simp only [wS]); omega) | rfl | decide) ?_
  | ((first | apply a1l (hl1)); exact AS)
  | exact RT [some 0]
  ))
   ·have hh : (ps.getD (0 + Int.toNat (x : Int)) none).isSome = true := by rw [hz]; exact hc
    cases hd : a1r (b2q (a1p ps (a2w ps).toNat) own x (a1p ps x)) (a1p ps x)
    ·rw [if_neg (by rw [hc, hd]; simp)] at hco
     rw [hco]
     rw [hd] at hl2
     clear hco hd
     generalize a2w ps = b at *
     have hfu' : Runs Tryz.prog 164 [aD (a1p ps (0 + b.toNat)), aD own, aD (a1p ps (0 + Int.toNat (x : Int))), .val (.int .i64 ((x : Int) + 1))] [] (Det (aD (b2q (a1p ps b.toNat) own x (a1p ps x))) []) := by rw [hz, Nat.zero_add]; exact hfu
     clear hfu
     generalize b2q (a1p ps b.toNat) own x (a1p ps x) = F at *
     rw [<- Nat.zero_add b.toNat] at hl1
     rw [<- hz] at hl2
     refine Runs.mk a0k Tryz.call136 Tryz.func136 rfl Tryz.ntmps136 Tryz.results136 rfl ?_
     (repeat' (first
  | (intro Q h; refine h ?_; clear h Q)
  | (with_reducible refine a07 ?_)
  | (refine a0a (fun hb => ?_) (fun hb => ?_) <;> (try simp only [nS, nT, eq_self, reduceCtorEq] at hb) <;> (try (exfalso; (first | omega | (rw [hh] at hb; cases hb)); done)))
  | refine a0q (by decide +kernel) ?_
  | refine a0c ?_
  | refine And.intro (by first | omega | ((try simp only [wS]); omega) | rfl | decide) ?_
  | ((first | apply a1l (hl1)); exact AS)
  | ((first | apply a1l (hfu')); exact AS)
  | ((first | apply a1l (hl2)); exact AS)
  | exact RT [some 0]
  ))
    ·rw [if_pos (.inr hd)] at hco
     rw [hco]
     rw [hd] at hl2
     clear hco hd
     generalize a2w ps = b at *
     have hfu' : Runs Tryz.prog 164 [aD (a1p ps (0 + b.toNat)), aD own, aD (a1p ps (0 + Int.toNat (x : Int))), .val (.int .i64 ((x : Int) + 1))] [] (Det (aD (b2q (a1p ps b.toNat) own x (a1p ps x))) []) := by rw [hz, Nat.zero_add]; exact hfu
     clear hfu
     generalize b2q (a1p ps b.toNat) own x (a1p ps x) = F at *
     rw [<- Nat.zero_add b.toNat] at hl1
     rw [<- hz] at hl2
     refine Runs.mk a0k Tryz.call136 Tryz.func136 rfl Tryz.ntmps136 Tryz.results136 rfl ?_
     (repeat' (first
  | (intro Q h; refine h ?_; clear h Q)
  | (with_reducible refine a01 ?_)
  | (with_reducible refine a07 ?_)
  | (refine a0a (fun hb => ?_) (fun hb => ?_) <;> (try simp only [nS, nT, eq_self, reduceCtorEq] at hb) <;> (try (exfalso; (first | omega | (rw [hh] at hb; cases hb)); done)))
  | refine a0q (by decide +kernel) ?_
  | refine a0c ?_
  | refine And.intro (by first | omega | ((try simp only [wS]); omega) | rfl | decide) ?_
  | ((first | apply a1l (hl1)); exact AS)
  | ((first | apply a1l (hfu')); exact AS)
  | ((first | apply a1l (hl2)); exact AS)
  | exact RT [some 0]
  ))
 ·have hco : a4v own ps x = 2 := by unfold a4v; rw [if_pos hS]
  rw [hco]
  unfold a2u at hS
  rw [Bool.or_eq_true, decide_eq_true_eq] at hS
  by_cases hb0 : a2w ps < 0
  ·clear hS hco
   generalize a2w ps = b at *
   refine Runs.mk a0k Tryz.call136 Tryz.func136 rfl Tryz.ntmps136 Tryz.results136 rfl ?_
   (repeat' (first
  | (intro Q h; refine h ?_; clear h Q)
  | (refine a0a (fun hb => ?_) (fun hb => ?_) <;> (try simp only [nS, nT, eq_self, reduceCtorEq] at hb) <;> (try (exfalso; omega)))
  | refine a0q (by decide +kernel) ?_
  | refine a0c ?_
  | refine And.intro (by first | omega | ((try simp only [wS]); omega) | rfl | decide) ?_
  | exact RT [some 0]
  ))
  ·have s2 := hS.resolve_left hb0
   have hl1 := a9a own (a1p ps (a2w ps).toNat)
   rw [s2] at hl1
   clear hS hco s2
   generalize a2w ps = b at *
   rw [<- Nat.zero_add b.toNat] at hl1
   refine Runs.mk a0k Tryz.call136 Tryz.func136 rfl Tryz.ntmps136 Tryz.results136 rfl ?_
   (repeat' (first
  | (intro Q h; refine h ?_; clear h Q)
  | (with_reducible refine a01 ?_)
  | (refine a0a (fun hb => ?_) (fun hb => ?_) <;> (try simp only [nS, nT, eq_self, reduceCtorEq] at hb) <;> (try (exfalso; omega)))
  | refine a0q (by decide +kernel) ?_
  | refine a0c ?_
  | refine And.intro (by first | omega | ((try simp only [wS]); omega) | rfl | decide) ?_
  | ((first | apply a1l (hl1)); exact AS)
  | exact RT [some 0]
  ))
theorem a7w (own : DS) (ps : List (Option DS)) (cap : Option Nat) (hn : ps.length <= 8) (hw : wfP ps) (hcl : 127 < own.cl) :
  Runs Tryz.prog 99 [aD own, .sl 0 12 0 ps.length cap] [pB ps] (Det (.tup [.sl 1 1 0 ps.length none, .val (.int .i64 0)]) [pB ps, iB true (a7s own ps)]) := by
 have hle := c5t ps cap (by omega)
 have hco := fun x hx => c6h own ps cap (by omega) hw hcl x hx
 have hcl2 := a2p own ps
 obtain ⟨b0, b1⟩ := b13 ps ps.length
 rw [show bst ps ps.length = a2w ps from rfl] at b0 b1
 refine Runs.mk a0k Tryz.call99 Tryz.func99 rfl Tryz.ntmps99 Tryz.results99 rfl ?_
 (repeat' (first
  | (intro Q h; refine h ?_; clear h Q)
  | (refine a0a (fun hb => ?_) (fun hb => ?_) <;> (try simp only [nS, nT, eq_self, reduceCtorEq] at hb) <;> (try (exfalso; omega)))
  | refine a0c ?_
  | ((first | apply a1z (hle) ); exact AS; (try (any_goals fail)))
  ))
 refine a0p (σ := Nat) (fun x => x <= ps.length) (fun x => ⟨[(1, .sl 0 12 0 ps.length cap), (2, .ptr 1 11 0 0), (6, .val (.int .i64 (a2w ps))), (7, .sl 2 1 0 x none), (8, .val (.int .i64 x))], [pB ps, .var (dC own), iB true (b1h own ps x)]⟩) (fun x => ps.length - x) (0) ?_ ?_ ?_
 ·omega
 ·exact LT [some 0, some 1, none]
 rintro x hx
 have hlx := hcl2 x
 have hsx : b1h own ps (x + 1) = b1h own ps x ++ [a4v own ps x] := rfl
 by_cases hxl : x < ps.length
 ·have hco := hco x hxl
  generalize b1h own ps x = C at *
  generalize a4v own ps x = c at *
  (repeat' (first
  | (intro Q h; refine h ?_; clear h Q)
  | (refine a0a (fun hb => ?_) (fun hb => ?_) <;> (try simp only [nS, nT, eq_self, reduceCtorEq] at hb) <;> (try (exfalso; omega)))
  | refine a0c ?_
  | refine And.intro (by first | omega | ((try simp only [wS]); omega) | rfl | decide) ?_
  | ((first | apply a1z (hco) ); exact AS; (try (any_goals fail)))
  | (apply a0i (Subtype.mk (x + 1) (by first | omega | (simp only; omega))); (focus (rw [hsx]; apply a04 [some 0, some 1, some _]; exact AS; any_goals (apply a0e; rfl))); (all_goals (try (first | (simp only; omega)))))
  ))
 ·have hx' : x = ps.length := by omega
  subst hx'
  (repeat' (first
  | (intro Q h; refine h ?_; clear h Q)
  | (refine a0a (fun hb => ?_) (fun hb => ?_) <;> (try simp only [nS, nT, eq_self, reduceCtorEq] at hb) <;> (try (exfalso; omega)))
  | refine a0c ?_
  | exact RT [some 0, some 2]
  ))
set_option maxHeartbeats 2000000 in
theorem b9n (own : DS) (ps : List (Option DS)) (cap : Option Nat) (hn : ps.length <= 8) (hw : wfP ps) (hcl : 127 < own.cl) :
  Runs Tryz.prog 161 [aD own, .sl 0 12 0 ps.length cap] [pB ps] (Det (aD (a5r own ps)) [pB ps]) := by
 have hde := a7w own ps cap hn hw hcl
 have hcl2 : (a7s own ps).length = ps.length := a2p own ps ps.length
 refine Runs.mk a0k Tryz.call161 Tryz.func161 rfl Tryz.ntmps161 Tryz.results161 rfl ?_
 (repeat' (first
  | (intro Q h; refine h ?_; clear h Q)
  | (refine a0a (fun hb => ?_) (fun hb => ?_) <;> (try simp only [nS, nT, eq_self, reduceCtorEq] at hb) <;> (try (exfalso; fail; done)))
  | refine a0c ?_
  | ((first | apply a1z (hde) ); exact AS; (try (any_goals fail)))
  ))
 refine a0p (σ := Nat) (fun x => x <= ps.length /\ ∀ y, y < x -> a4v own ps y ≠ 6) (fun x => ⟨[(1, .sl 0 12 0 ps.length cap), (2, .ptr 1 11 0 0), (4, .ptr 2 11 0 0), (5, .sl 3 1 0 ps.length none), (7, .val (.int .i64 x))], [pB ps, .var (dC own), .var (dC default), iB true (a7s own ps)]⟩) (fun x => ps.length - x) (0) ?_ ?_ ?_
 ·exact ⟨by omega, fun y h => by omega⟩
 ·exact LT [some 0, some 1, some 2, some 3]
 rintro x ⟨hx, hxe⟩
 by_cases hxl : x < ps.length
 ·have hz : 0 + Int.toNat (x : Int) = x := by omega
  have hg : (a7s own ps).getD (0 + Int.toNat (x : Int)) 0 = a4v own ps x := by rw [hz]; exact a5q own ps _ _ hxl
  by_cases h6 : a4v own ps x = 6
  ·have hf := b8q h6
   rw [<- hz] at hf
   rw [h6] at hg
   rw [hf]
   generalize a7s own ps = C at *
   (repeat' (first
  | (intro Q h; refine h ?_; clear h Q)
  | (refine a0a (fun hb => ?_) (fun hb => ?_) <;> (try simp only [nS, nT, eq_self, reduceCtorEq] at hb) <;> (try (exfalso; omega)))
  | refine a0c ?_
  | refine And.intro (by first | omega | ((try simp only [wS]); omega) | rfl | decide) ?_
  | exact RT [some 0]
  ))
  ·have hxe' : ∀ y, y < x + 1 -> a4v own ps y ≠ 6 := fun y hy => by
    by_cases h : y = x
    ·rw [h]; exact h6
    ·exact hxe y (by omega)
   rw [<- hg] at h6
   generalize a7s own ps = C at *
   (repeat' (first
  | (intro Q h; refine h ?_; clear h Q)
  | (refine a0a (fun hb => ?_) (fun hb => ?_) <;> (try simp only [nS, nT, eq_self, reduceCtorEq] at hb) <;> (try (exfalso; omega)))
  | refine a0c ?_
  | refine And.intro (by first | omega | ((try simp only [wS]); omega) | rfl | decide) ?_
  | (apply a0i (Subtype.mk (x + 1) ⟨by omega, hxe'⟩); (focus exact LT [some 0, some 1, some 2, some 3]); (all_goals (try (first | (simp only; omega)))))
  ))
 ·have hx' : x = ps.length := by omega
  subst hx'
  rw [b5g hxe]
  (repeat' (first
  | (intro Q h; refine h ?_; clear h Q)
  | (refine a0a (fun hb => ?_) (fun hb => ?_) <;> (try simp only [nS, nT, eq_self, reduceCtorEq] at hb) <;> (try (exfalso; omega)))
  | refine a0c ?_
  | exact RT [some 0]
  ))
end Go.Vx.L58
set_option maxRecDepth 100000
namespace Go.Vx.L58
open Go Go.Proofs
def mm1 (M : Mem) (x p : Nat) : List Mm := match M x p with
 | some (a, d) => [⟨x, p, a, d⟩]
 | none => []
def mlP (M : Mem) (x : Nat) : Nat -> List Mm
 | 0 => []
 | k + 1 => mlP M x k ++ mm1 M x (k + 1)
def mlA (M : Mem) : Nat -> List Mm
 | 0 => []
 | x + 1 => mlA M x ++ mlP M x 8
def isM (x p : Int) (m : Mm) : Bool := decide (m.node = x /\ m.port = p)
theorem c5w (M : Mem) (x p y q : Nat) : (mm1 M x p).find? (isM y q) = if x = y /\ p = q then (M y q).map fun v => (⟨y, q, v.1, v.2⟩ : Mm) else none := by
 unfold mm1
 by_cases h : x = y /\ p = q
 ·obtain ⟨rfl, rfl⟩ := h
  rw [if_pos ⟨rfl, rfl⟩]
  cases M x p with
  | none => rfl
  | some v => simp [isM]
 ·rw [if_neg h]
  cases M x p with
  | none => rfl
  | some v =>
   have : isM y q (⟨x, p, v.1, v.2⟩ : Mm) = false := by
    unfold isM; rw [decide_eq_false]; simp only; omega
   simp [this]
theorem b87 (M : Mem) (x y q : Nat) : ∀ k, (mlP M x k).find? (isM y q) = if x = y /\ 1 <= q /\ q <= k then (M y q).map fun v => (⟨y, q, v.1, v.2⟩ : Mm) else none
 | 0 => by rw [if_neg (by omega)]; rfl
 | k + 1 => by
  rw [mlP, List.find?_append, b87 M x y q k, c5w]
  by_cases h : x = y /\ 1 <= q /\ q <= k
  ·rw [if_pos h, if_neg (by omega), if_pos (by omega)]
   cases (M y q).map fun v => (⟨y, q, v.1, v.2⟩ : Mm) <;> rfl
  ·rw [if_neg h]
   by_cases h2 : x = y /\ k + 1 = q
   ·rw [if_pos h2, if_pos (by omega)]; rfl
   ·rw [if_neg h2, if_neg (by omega)]; rfl
theorem b2c (M : Mem) (y q : Nat) : ∀ x, (mlA M x).find? (isM y q) = if y < x /\ 1 <= q /\ q <= 8 then (M y q).map fun v => (⟨y, q, v.1, v.2⟩ : Mm) else none
 | 0 => by rw [if_neg (by omega)]; rfl
 | x + 1 => by
  rw [mlA, List.find?_append, b2c M y q x, b87]
  by_cases h : y < x /\ 1 <= q /\ q <= 8
  ·rw [if_pos h, if_neg (by omega), if_pos (by omega)]
   cases (M y q).map fun v => (⟨y, q, v.1, v.2⟩ : Mm) <;> rfl
  ·rw [if_neg h]
   by_cases h2 : x = y /\ 1 <= q /\ q <= 8
   ·rw [if_pos h2, if_pos (by omega)]; rfl
   ·rw [if_neg h2, if_neg (by omega)]; rfl
theorem d0z (M : Mem) (x p : Nat) : (mm1 M x p).length <= 1 := by
 unfold mm1; split <;> simp
theorem b6r (M : Mem) (x : Nat) : ∀ k, (mlP M x k).length <= k
 | 0 => by simp [mlP]
 | k + 1 => by
  have := b6r M x k
  have := d0z M x (k + 1)
  rw [mlP, List.length_append]; omega
theorem a73 (M : Mem) : ∀ x, (mlA M x).length <= 8 * x
 | 0 => by simp [mlA]
 | x + 1 => by
  have := a73 M x
  have := b6r M x 8
  rw [mlA, List.length_append]; omega
theorem b76 : ∀ x, mlA (fun _ _ => none) x = []
 | 0 => rfl
 | x + 1 => by rw [mlA, b76 x]; rfl
theorem c3a {L : List Mm} {f : Mm -> Bool} {i : Nat} (hi : i < L.length) : (L.drop i).find? f = if f (L.getD i mm0) = true then some (L.getD i mm0) else (L.drop (i + 1)).find? f := by
 rw [List.drop_eq_getElem_cons hi, List.find?_cons]
 have e : L.getD i mm0 = L[i] := by rw [List.getD_eq_getElem?_getD, List.getElem?_eq_getElem hi]; rfl
 rw [e]
 cases f L[i] <;> rfl
end Go.Vx.L58
set_option maxRecDepth 100000
namespace Go.Vx.L58
open Go Go.Proofs
theorem d0r (c : Nd) : Runs Tryz.prog 137 [.agg [.val (.int .i64 c.p1), .val (.int .i64 c.cl), .val (.int .i64 c.ac), .val (.int .i64 c.va), .val (.int .i64 c.p2)], .val (.int .u64 c.id)] [] (Det (aD (owD c)) []) := by
 refine Runs.mk a0k Tryz.call137 Tryz.func137 rfl Tryz.ntmps137 Tryz.results137 rfl ?_
 (repeat' (first
  | refine SP ?_
  | exact RT []
  ))
theorem c4x (n : Int) (l : List Ed) (cap : Option Nat) (ns : List Nd) (cap' : Option Nat) (x : Nat) (hx : x < ns.length) :
  Runs Tryz.prog 100 [aN n l cap ns cap', .val (.int .i64 x)] [gB l, ndB ns] (Det (aD (owD (ns.getD x nd0))) [gB l, ndB ns]) := by
 have hz : 0 + Int.toNat (x : Int) = x := by omega
 have ho := d0r (ns.getD (0 + Int.toNat (x : Int)) nd0)
 rw [show owD (ns.getD (0 + Int.toNat (x : Int)) nd0) = owD (ns.getD x nd0) by rw [hz]] at ho
 refine Runs.mk a0k Tryz.call100 Tryz.func100 rfl Tryz.ntmps100 Tryz.results100 rfl ?_
 (repeat' (first
  | refine SP ?_
  | refine a0q (by decide +kernel) ?_
  | refine a0c ?_
  | refine OB ?_
  | ((first | apply a1l (ho)); exact AS)
  | exact RT [some 0, some 1]
  ))
theorem c1y (n : Int) (l : List Ed) (cap : Option Nat) (ns : List Nd) (cap' : Option Nat) :
  Runs Tryz.prog 53 [aN n l cap ns cap'] [gB l, ndB ns] (Det (.agg [.val (.int .i64 0), .val (.slice none 0 0)]) [gB l, ndB ns]) := by
 refine Runs.mk a0k Tryz.call53 Tryz.func53 rfl Tryz.ntmps53 Tryz.results53 rfl ?_
 (repeat' (first
  | refine SP ?_
  | exact RT [some 0, some 1]
  ))
theorem c1t (rd : Int) (ms : List Mm) (cap : Option Nat) (hm : ms.length <= 1000) (a p : Int) :
  Runs Tryz.prog 134 [aBl rd ms cap 0, .val (.int .i64 a), .val (.int .i64 p)] [meB false ms] (Det (.tup [meA ((ms.find? (isM a p)).getD mm0), .sb (ms.find? (isM a p)).isSome]) [meB false ms]) := by
 refine Runs.mk a0k Tryz.call134 Tryz.func134 rfl Tryz.ntmps134 Tryz.results134 rfl ?_
 (repeat' (first
  | refine SP ?_
  | refine a0c ?_
  ))
 refine a0p (σ := Nat) (fun x => x <= ms.length /\ (ms.drop x).find? (isM a p) = ms.find? (isM a p)) (fun x => ⟨[(1, .val (.int .i64 a)), (2, .val (.int .i64 p)), (3, .ptr 1 2 0 0), (6, .ptr 2 14 0 0), (8, .val (.int .i64 x))], [meB false ms, .var [.val (.int .i64 rd), .sl 0 14 0 ms.length cap], .var (meC mm0)]⟩) (fun x => ms.length - x) (0) ?_ ?_ ?_
 ·exact ⟨by omega, rfl⟩
 ·exact LT [some 0, some 1, some 2]
 rintro k ⟨hk, he⟩
 by_cases hkl : k < ms.length
 ·have hz : 0 + Int.toNat (k : Int) = k := by omega
  have hd := c3a (f := isM a p) hkl
  rw [he] at hd
  by_cases hi : (ms.getD k mm0).node = a /\ (ms.getD k mm0).port = p
  ·rw [if_pos (show isM a p (ms.getD k mm0) = true from decide_eq_true hi)] at hd
   rw [hd]
   obtain ⟨i1, i2⟩ := hi
   rw [show ms.getD k mm0 = ms.getD (0 + Int.toNat (k : Int)) mm0 by rw [hz]] at i1 i2 ⊢
   (repeat' (first
  | refine SP ?_
  | (apply a0a <;> intro hb <;> (try simp only [nS, nT, eq_self, reduceCtorEq] at hb) <;> (try (exfalso; omega)))
  | refine a0c ?_
  | refine OB ?_
  | exact RT [some 0]
  ))
  ·rw [if_neg (by unfold isM; rw [decide_eq_true_eq]; exact hi)] at hd
   have hi' : (ms.getD (0 + Int.toNat (k : Int)) mm0).node = a -> (ms.getD (0 + Int.toNat (k : Int)) mm0).port = p -> False := fun h1 h2 => hi ⟨by rw [<- hz]; exact h1, by rw [<- hz]; exact h2⟩
   (repeat' (first
  | refine SP ?_
  | (apply a0a <;> intro hb <;> (try simp only [nS, nT, eq_self, reduceCtorEq] at hb) <;> (try (exfalso; omega)))
  | refine a0c ?_
  | refine OB ?_
  | (apply a0i (Subtype.mk (k + 1) ⟨by omega, hd.symm⟩); (focus exact LT [some 0, some 1, some 2]); (all_goals (try (first | (simp only; omega)))))
  ))
   all_goals first | exact absurd hb (fun h => hi' (by assumption) h) | fail
 ·obtain rfl : k = ms.length := by omega
  rw [List.drop_length, List.find?_nil] at he
  rw [<- he]
  (repeat' (first
  | refine SP ?_
  | (apply a0a <;> intro hb <;> (try simp only [nS, nT, eq_self, reduceCtorEq] at hb) <;> (try (exfalso; omega)))
  | refine a0c ?_
  | exact RT [some 0]
  ))
end Go.Vx.L58
set_option maxRecDepth 100000
namespace Go.Vx.L58
open Go Go.Proofs
def hdL (ms : List Mm) (a : Int) : Nat -> List (Option DS)
 | 0 => []
 | k + 1 => hdL ms a k ++ [(ms.find? (isM a ((k : Int) + 1))).map (·.set)]
theorem a9u (ms : List Mm) (a : Int) : ∀ k, (hdL ms a k).length = k
 | 0 => rfl
 | k + 1 => by rw [hdL, List.length_append, a9u ms a k]; rfl
theorem c45 (ms : List Mm) (a : Int) : ∀ k i, i < k -> (hdL ms a k).getD i none = (ms.find? (isM a ((i : Int) + 1))).map (·.set)
 | 0, i, h => by omega
 | k + 1, i, h => by
  have hl := a9u ms a k
  rw [hdL, List.getD_eq_getElem?_getD]
  by_cases hi : i < k
  ·rw [List.getElem?_append_left (by omega), <- List.getD_eq_getElem?_getD, c45 ms a k i hi]
  ·obtain rfl : i = k := by omega
   rw [List.getElem?_append_right (by omega), hl, Nat.sub_self]; rfl
theorem c00 (M : Mem) {n x : Nat} (hx : x < n) : hdL (mlA M n) x 8 = hrd M x := by
 refine List.ext_getElem (by rw [a9u, a52]) fun i h1 h2 => ?_
 have hi : i < 8 := by rw [a9u] at h1; exact h1
 have e1 := c45 (mlA M n) x 8 i hi
 have e2 := b6u M x i hi
 rw [show ((i : Int) + 1) = ((i + 1 : Nat) : Int) by omega, b2c, if_pos ⟨hx, by omega, by omega⟩] at e1
 rw [List.getD_eq_getElem?_getD, List.getElem?_eq_getElem h1, Option.getD_some] at e1
 rw [List.getD_eq_getElem?_getD, List.getElem?_eq_getElem h2, Option.getD_some] at e2
 rw [e1, e2]
 cases M x (i + 1) <;> rfl
set_option maxHeartbeats 2000000 in
theorem b5f (rd : Int) (ms : List Mm) (cap : Option Nat) (hm : ms.length <= 1000) (a : Int) :
  Runs Tryz.prog 101 [aBl rd ms cap 0, .val (.int .i64 a)] [meB false ms] (Det (.sl 1 12 0 8 none) [meB false ms, .arr true 206 12 8 (pbF (hdL ms a 8))]) := by
 have hf := fun p => c1t rd ms cap hm a p
 have hlx := a9u ms a
 have hsx : ∀ k, hdL ms a (k + 1) = hdL ms a k ++ [(ms.find? (isM a ((k : Int) + 1))).map (·.set)] := fun _ => rfl
 refine Runs.mk a0k Tryz.call101 Tryz.func101 rfl Tryz.ntmps101 Tryz.results101 rfl ?_
 (repeat' (first
  | refine SP ?_
  | refine a0c ?_
  ))
 refine a0p (σ := Nat) (fun x => x <= 8) (fun x => ⟨[(1, .val (.int .i64 a)), (2, .ptr 1 2 0 0), (5, .sl 2 12 0 x none), (6, .val (.int .i64 ((x : Int) + 1)))], [meB false ms, .var [.val (.int .i64 rd), .sl 0 14 0 ms.length cap], .arr true 206 12 x (pbF (hdL ms a x))]⟩) (fun x => 8 - x) (0) ?_ ?_ ?_
 ·omega
 ·exact LT [some 0, some 1, none]
 rintro x hx
 by_cases hxl : x < 8
 ·have hsx := hsx x
  have hlx := hlx x
  have hf := hf ((x : Int) + 1)
  generalize hdL ms a x = C at *
  cases hfi : ms.find? (isM a ((x : Int) + 1)) with
  | none =>
   rw [hfi] at hf hsx
   simp only [Option.isSome_none, Option.getD_none, Option.map_none] at hf hsx
   (repeat' (first
  | refine SP ?_
  | (with_reducible refine a07 ?_)
  | (apply a0a <;> intro hb <;> (try simp only [nS, nT, eq_self, reduceCtorEq] at hb) <;> (try (exfalso; omega)))
  | refine a0c ?_
  | refine OB ?_
  | ((first | apply a1z (hf) ); exact AS; (try (any_goals fail)))
  | (apply a0i (Subtype.mk (x + 1) (by first | omega | (simp only; omega))); (focus (rw [hsx]; apply a04 [some 0, some 1, some _]; (focus (iterate 2 (all_goals (repeat' (first | exact a0g | exact trivial | refine SP ?_ | refine And.intro ?_ ?_ | refine a0d ?_ ?_ | refine a09 ?_ | exact a0z rfl rfl | exact a0r rfl rfl rfl | exact a0b _ _ | exact a0j rfl rfl rfl | ((first | refine a0f ?_ | show (_ : Nat) = _); first | with_reducible rfl | omega | ((try simp only [wS]); omega) | rfl) | apply a3l | refine a0o ?_ ?_ | exact a3c | with_reducible rfl | refine a0f ?_ | refine a0w ?_ ))))); any_goals (apply a0e; rfl))); (all_goals (try (first | (simp only; omega)))))
  ))
   all_goals rfl
  | some m =>
   rw [hfi] at hf hsx
   simp only [Option.isSome_some, Option.getD_some, Option.map_some] at hf hsx
   (repeat' (first
  | refine SP ?_
  | (with_reducible refine a01 ?_)
  | (apply a0a <;> intro hb <;> (try simp only [nS, nT, eq_self, reduceCtorEq] at hb) <;> (try (exfalso; omega)))
  | refine a0c ?_
  | refine OB ?_
  | ((first | apply a1z (hf) ); exact AS; (try (any_goals fail)))
  | (apply a0i (Subtype.mk (x + 1) (by first | omega | (simp only; omega))); (focus (rw [hsx]; apply a04 [some 0, some 1, some _]; (focus (iterate 2 (all_goals (repeat' (first | exact a0g | exact trivial | refine SP ?_ | refine And.intro ?_ ?_ | refine a0d ?_ ?_ | refine a09 ?_ | exact a0z rfl rfl | exact a0r rfl rfl rfl | exact a0b _ _ | exact a0j rfl rfl rfl | ((first | refine a0f ?_ | show (_ : Nat) = _); first | with_reducible rfl | omega | ((try simp only [wS]); omega) | rfl) | apply a3l | refine a0o ?_ ?_ | exact a3c | with_reducible rfl | refine a0f ?_ | refine a0w ?_ ))))); any_goals (apply a0e; rfl))); (all_goals (try (first | (simp only; omega)))))
  ))
   all_goals rfl
 ·obtain rfl : x = 8 := by omega
  (repeat' (first
  | refine SP ?_
  | (apply a0a <;> intro hb <;> (try simp only [nS, nT, eq_self, reduceCtorEq] at hb) <;> (try (exfalso; omega)))
  | refine a0c ?_
  | exact RT [some 0, some 2]
  ))
theorem b7u (l : List Int) (cap : Option Nat) (hl : l.length <= 1000) : Runs Tryz.prog 68 [.sl 0 1 0 l.length cap] [iB false l] (Det (.sb (l.all wrd)) [iB false l]) := by
 refine Runs.mk a0k Tryz.call68 Tryz.func68 rfl Tryz.ntmps68 Tryz.results68 rfl ?_
 (repeat' (first
  | refine SP ?_
  | refine a0c ?_
  ))
 refine a0p (σ := Nat) (fun x => x <= l.length /\ (l.take x).all wrd = true) (fun x => ⟨[(0, .sl 0 1 0 l.length cap), (3, .val (.int .i64 x))], [iB false l]⟩) (fun x => l.length - x) (0) ?_ ?_ ?_
 ·simp
 ·exact LT [some 0]
 rintro x ⟨hx, hxe⟩
 by_cases hxl : x < l.length
 ·have hz : 0 + Int.toNat (x : Int) = x := by omega
  have e1 : l.take (x + 1) = l.take x ++ [l.getD x 0] := by
   rw [List.getD_eq_getElem?_getD, List.getElem?_eq_getElem hxl, Option.getD_some]; exact (List.take_append_getElem hxl).symm
  cases hc : wrd (l.getD x 0)
  ·have hall : l.all wrd = false := by
    rw [List.all_eq_false]; exact ⟨_, a2s l x 0 hxl, by rw [hc]; simp⟩
   rw [hall]
   unfold wrd at hc
   rw [decide_eq_false_iff_not, <- hz] at hc
   (repeat' (first
  | refine SP ?_
  | (apply a0a <;> intro hb <;> (try simp only [nS, nT, eq_self, reduceCtorEq] at hb) <;> (try (exfalso; omega)))
  | refine a0c ?_
  | refine OB ?_
  | exact RT [some 0]
  ))
  ·have hxe' : (l.take (x + 1)).all wrd = true := by rw [e1, List.all_append, hxe, List.all_cons, hc]; rfl
   unfold wrd at hc
   rw [decide_eq_true_eq, <- hz] at hc
   (repeat' (first
  | refine SP ?_
  | (apply a0a <;> intro hb <;> (try simp only [nS, nT, eq_self, reduceCtorEq] at hb) <;> (try (exfalso; omega)))
  | refine a0c ?_
  | refine OB ?_
  | (apply a0i (Subtype.mk (x + 1) ⟨by omega, hxe'⟩); (focus exact LT [some 0]); (all_goals (try (first | (simp only; omega)))))
  ))
 ·rw [List.take_of_length_le (by omega)] at hxe
  rw [hxe]
  (repeat' (first
  | refine SP ?_
  | (apply a0a <;> intro hb <;> (try simp only [nS, nT, eq_self, reduceCtorEq] at hb) <;> (try (exfalso; omega)))
  | refine a0c ?_
  | exact RT [some 0]
  ))
theorem c41 (n : Int) (l : List Ed) (cap : Option Nat) (hl : l.length <= maxLen) (ns : List Nd) (cap' : Option Nat) (a p : Int) :
  Runs Tryz.prog 159 [aN n l cap ns cap', .val (.int .i64 a), .val (.int .i64 p)] [gB l, ndB ns] (Det (.sb ((rpL n l a 8).contains p)) [gB l, ndB ns]) := by
 have hp := c3e n l cap hl a
 have hlen := c4h n l a 8
 generalize rpL n l a 8 = L at *
 refine Runs.mk a0k Tryz.call159 Tryz.func159 rfl Tryz.ntmps159 Tryz.results159 rfl ?_
 (repeat' (first
  | refine SP ?_
  | refine a0c ?_
  | ((first | apply a1z (hp) ); exact AS; (try (any_goals fail)))
  ))
 refine a0p (σ := Nat) (fun x => x <= L.length /\ (L.take x).contains p = false) (fun x => ⟨[(2, .val (.int .i64 p)), (7, .sl 2 1 0 L.length none), (8, .val (.int .i64 x))], [gB l, ndB ns, iB true L]⟩) (fun x => L.length - x) (0) ?_ ?_ ?_
 ·simp
 ·(apply a04 [some 0, some 1, some _]; exact AS; any_goals (apply a0e; rfl))
 rintro x ⟨hx, hxe⟩
 by_cases hxl : x < L.length
 ·have hz : 0 + Int.toNat (x : Int) = x := by omega
  have e1 : L.take (x + 1) = L.take x ++ [L.getD x 0] := by
   rw [List.getD_eq_getElem?_getD, List.getElem?_eq_getElem hxl, Option.getD_some]; exact (List.take_append_getElem hxl).symm
  by_cases hc : L.getD x 0 = p
  ·have hall : L.contains p = true := List.contains_iff_mem.2 (by rw [<- hc]; exact a2s L x 0 hxl)
   rw [hall]
   rw [<- hz] at hc
   (repeat' (first
  | refine SP ?_
  | (apply a0a <;> intro hb <;> (try simp only [nS, nT, eq_self, reduceCtorEq] at hb) <;> (try (exfalso; omega)))
  | refine a0c ?_
  | refine OB ?_
  | exact RT [some 0, some 1]
  ))
  ·have hxe' : (L.take (x + 1)).contains p = false := by
    rw [Bool.eq_false_iff] at hxe ⊢
    intro h
    rw [List.contains_iff_mem, e1, List.mem_append] at h
    rcases h with h | h
    ·exact hxe (List.contains_iff_mem.2 h)
    ·simp only [List.mem_singleton] at h; exact hc h.symm
   rw [<- hz] at hc
   (repeat' (first
  | refine SP ?_
  | (apply a0a <;> intro hb <;> (try simp only [nS, nT, eq_self, reduceCtorEq] at hb) <;> (try (exfalso; omega)))
  | refine a0c ?_
  | refine OB ?_
  | (apply a0i (Subtype.mk (x + 1) ⟨by omega, hxe'⟩); (focus exact LT [some 0, some 1, some 2]); (all_goals (try (first | (simp only; omega)))))
  ))
 ·rw [List.take_of_length_le (by omega)] at hxe
  rw [hxe]
  (repeat' (first
  | refine SP ?_
  | (apply a0a <;> intro hb <;> (try simp only [nS, nT, eq_self, reduceCtorEq] at hb) <;> (try (exfalso; omega)))
  | refine a0c ?_
  | exact RT [some 0, some 1]
  ))
set_option maxHeartbeats 4000000 in
theorem b0e (n : Int) (l : List Ed) (cap : Option Nat) (hl : l.length <= maxLen) (ns : List Nd) (cap' : Option Nat) (hn : ns.length <= maxLen) :
  Runs Tryz.prog 28 [aN n l cap ns cap'] [gB l, ndB ns] (Det (.val (.int .i64 (ckE n l ns))) [gB l, ndB ns]) := by
 have hmx : maxLen = 9223372036854775807 := by decide
 have hck := b5t n l cap hl
 by_cases hc : ckC n l = 0
 rotate_left
 ·have e : ckE n l ns = ckC n l := by unfold ckE; rw [if_pos hc]
  rw [e]
  generalize ckC n l = c at *
  refine Runs.mk a0k Tryz.call28 Tryz.func28 rfl Tryz.ntmps28 Tryz.results28 rfl ?_
  (repeat' (first
  | refine SP ?_
  | (apply a0a <;> intro hb <;> (try simp only [nS, nT, eq_self, reduceCtorEq] at hb) <;> (try (exfalso; omega)))
  | refine a0c ?_
  | ((first | apply a1z (hck) ); exact AS; (try (any_goals fail)))
  | exact RT [some 0, some 1]
  ))
 obtain ⟨m, rfl, hm, _, _⟩ := a4d hc
 rw [hc] at hck
 by_cases hlen : (ns.length : Int) = m
 rotate_left
 ·have e : ckE m l ns = 7 := by unfold ckE; rw [if_neg (by omega), if_pos hlen]
  rw [e]
  refine Runs.mk a0k Tryz.call28 Tryz.func28 rfl Tryz.ntmps28 Tryz.results28 rfl ?_
  (repeat' (first
  | refine SP ?_
  | (apply a0a <;> intro hb <;> (try simp only [nS, nT, eq_self, reduceCtorEq] at hb) <;> (try (exfalso; omega)))
  | refine a0c ?_
  | ((first | apply a1z (hck) ); exact AS; (try (any_goals fail)))
  | exact RT [some 0, some 1]
  ))
 have e : ckE m l ns = b69 ns ns.length 0 := by unfold ckE; rw [if_neg (by omega), if_neg (by omega)]
 rw [e]
 clear e
 refine Runs.mk a0k Tryz.call28 Tryz.func28 rfl Tryz.ntmps28 Tryz.results28 rfl ?_
 (repeat' (first
  | refine SP ?_
  | (apply a0a <;> intro hb <;> (try simp only [nS, nT, eq_self, reduceCtorEq] at hb) <;> (try (exfalso; omega)))
  | refine a0c ?_
  | ((first | apply a1z (hck) ); exact AS; (try (any_goals fail)))
  ))
 refine a0p (σ := Nat) (fun x => x <= ns.length /\ b69 ns (ns.length - x) x = b69 ns ns.length 0) (fun x => ⟨[(1, .ptr 2 3 0 0), (4, .val (.int .i64 x))], [gB l, ndB ns, .var [.val (.int .i64 m), .sl 0 4 0 l.length cap, .sl 1 6 0 ns.length cap']]⟩) (fun x => ns.length - x) (0) ?_ ?_ ?_
 ·exact ⟨by omega, rfl⟩
 ·exact LT [some 0, some 1, some 2]
 rintro i ⟨hi, hie⟩
 by_cases hil : i < ns.length
 ·have hz : 0 + Int.toNat (i : Int) = i := by omega
  rw [show ns.length - i = (ns.length - (i + 1)) + 1 by omega, b69] at hie
  have hwo := b7u (qlL (ns.getD (0 + Int.toNat (i : Int)) nd0)) (some 5) (by simp [qlL])
  have hcn : c73 ns i = if (qlL (ns.getD (0 + Int.toNat (i : Int)) nd0)).all wrd = false then 3 else if b40 ns i i = true then 10 else if (ns.getD (0 + Int.toNat (i : Int)) nd0).cl <= 127 then 15 else 0 := by rw [hz]; rfl
  cases hw : (qlL (ns.getD (0 + Int.toNat (i : Int)) nd0)).all wrd
  ·rw [hw] at hwo
   rw [hw, if_pos rfl] at hcn
   rw [hcn, if_pos (by decide)] at hie
   rw [<- hie]
   (repeat' (first
  | refine SP ?_
  | (apply a0a <;> intro hb <;> (try simp only [nS, nT, eq_self, reduceCtorEq] at hb) <;> (try (exfalso; omega)))
  | refine a0c ?_
  | refine OB ?_
  | ((first | apply a1z (hwo) ); (focus (iterate 2 (all_goals (repeat' (first | exact a0g | exact trivial | refine SP ?_ | refine And.intro ?_ ?_ | refine a0d ?_ ?_ | exact a0r rfl rfl rfl | exact a0b _ _ | refine a0o ?_ ?_ | exact a3c | (apply a3g rfl; (focus (refine a0o ?_ ?_))) ))))); (try (any_goals fail)))
  | exact RT [some 0, some 1]
  ))
  ·rw [hw] at hwo
   rw [hw, if_neg (by simp)] at hcn
   (repeat' (first
  | refine SP ?_
  | (apply a0a <;> intro hb <;> (try simp only [nS, nT, eq_self, reduceCtorEq] at hb) <;> (try (exfalso; omega)))
  | refine a0c ?_
  | refine OB ?_
  | ((first | apply a1z (hwo) ); (focus (iterate 2 (all_goals (repeat' (first | exact a0g | exact trivial | refine SP ?_ | refine And.intro ?_ ?_ | refine a0d ?_ ?_ | exact a0r rfl rfl rfl | exact a0b _ _ | refine a0o ?_ ?_ | exact a3c | (apply a3g rfl; (focus (refine a0o ?_ ?_))) ))))); (try (any_goals fail)))
  ))
   refine a0p (σ := Nat) (fun x => x <= i /\ b40 ns i x = false) (fun x => ⟨[(1, .ptr 2 3 0 0), (4, .val (.int .i64 i)), (5, .ptr 3 5 0 0), (6, .val (.int .i64 x))], [gB l, ndB ns, .var [.val (.int .i64 m), .sl 0 4 0 l.length cap, .sl 1 6 0 ns.length cap'], .var [.val (.int .i64 (ns.getD (0 + Int.toNat (i : Int)) nd0).p1), .val (.int .i64 (ns.getD (0 + Int.toNat (i : Int)) nd0).cl), .val (.int .i64 (ns.getD (0 + Int.toNat (i : Int)) nd0).ac), .val (.int .i64 (ns.getD (0 + Int.toNat (i : Int)) nd0).va), .val (.int .i64 (ns.getD (0 + Int.toNat (i : Int)) nd0).p2)]]⟩) (fun x => i - x) (0) ?_ ?_ ?_
   ·exact ⟨by omega, rfl⟩
   ·exact LT [some 0, some 1, some 2, some 3]
   rintro y ⟨hy, hye⟩
   by_cases hyi : y < i
   ·have hzy : 0 + Int.toNat (y : Int) = y := by omega
    by_cases hd : (ns.getD (0 + Int.toNat (y : Int)) nd0).id = (ns.getD (0 + Int.toNat (i : Int)) nd0).id
    ·have hdu : b40 ns i i = true := b3j (by rw [hzy, hz] at hd; exact hd) i hyi
     rw [hdu, if_pos rfl] at hcn
     rw [hcn, if_pos (by decide)] at hie
     rw [<- hie]
     (repeat' (first
  | refine SP ?_
  | (apply a0a <;> intro hb <;> (try simp only [nS, nT, eq_self, reduceCtorEq] at hb) <;> (try (exfalso; omega)))
  | refine a0q (by decide +kernel) ?_
  | refine a0c ?_
  | refine OB ?_
  | exact RT [some 0, some 1]
  ))
    ·have hdu : b40 ns i (y + 1) = false := by
      unfold b40; rw [hye, decide_eq_false (by rw [hzy, hz] at hd; exact hd)]; rfl
     (repeat' (first
  | refine SP ?_
  | (apply a0a <;> intro hb <;> (try simp only [nS, nT, eq_self, reduceCtorEq] at hb) <;> (try (exfalso; omega)))
  | refine a0q (by decide +kernel) ?_
  | refine a0c ?_
  | refine OB ?_
  | (apply a0i (Subtype.mk (y + 1) ⟨by omega, hdu⟩); (focus exact LT [some 0, some 1, some 2, some 3]); (all_goals (try (first | (simp only; omega)))))
  ))
   ·obtain rfl : y = i := by omega
    rw [hye, if_neg (by simp)] at hcn
    by_cases hcl : (ns.getD (0 + Int.toNat (y : Int)) nd0).cl <= 127
    ·rw [if_pos hcl] at hcn
     rw [hcn, if_pos (by decide)] at hie
     rw [<- hie]
     (repeat' (first
  | refine SP ?_
  | (apply a0a <;> intro hb <;> (try simp only [nS, nT, eq_self, reduceCtorEq] at hb) <;> (try (exfalso; omega)))
  | refine a0c ?_
  | exact RT [some 0, some 1]
  ))
    ·rw [if_neg hcl] at hcn
     rw [hcn, if_neg (by decide)] at hie
     (repeat' (first
  | refine SP ?_
  | (apply a0a <;> intro hb <;> (try simp only [nS, nT, eq_self, reduceCtorEq] at hb) <;> (try (exfalso; omega)))
  | refine a0c ?_
  | (apply a0i (Subtype.mk (y + 1) ⟨by omega, hie⟩); (focus exact LT [some 0, some 1, some 2]); (all_goals (try (first | (simp only; omega)))))
  ))
 ·have hx' : i = ns.length := by omega
  subst hx'
  rw [Nat.sub_self, b69] at hie
  rw [<- hie]
  (repeat' (first
  | refine SP ?_
  | (apply a0a <;> intro hb <;> (try simp only [nS, nT, eq_self, reduceCtorEq] at hb) <;> (try (exfalso; omega)))
  | refine a0c ?_
  | exact RT [some 0, some 1]
  ))
end Go.Vx.L58

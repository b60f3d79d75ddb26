/- Lemmas of a small executor for the model, and contracts of functions, used for the law that this claim proves. No condition. -/
import Derived.Test.YtodbfpjjahpahaaGreatDoorEW3
import Derived.Test.YtodbfpjjahpahaaGreatDoorERB1
import Derived.Test.YtodbfpjjahpahaaGreatDoorEPA
set_option linter.unusedSimpArgs false
set_option linter.unusedVariables false
set_option maxRecDepth 100000
namespace Go.Vx.L58
open Go Go.Proofs
theorem td9 (a : Int) : a.tdiv 1000000000 = (if 0 <= a then a / 1000000000 else -((-a) / 1000000000)) /\ a.tmod 1000000000 = a - 1000000000 * (if 0 <= a then a / 1000000000 else -((-a) / 1000000000)) := by
 have h : a.tdiv 1000000000 = (if 0 <= a then a / 1000000000 else -((-a) / 1000000000)) := by
  by_cases h : 0 <= a
  ·rw [if_pos h]; exact Int.tdiv_eq_ediv_of_nonneg h
  ·rw [if_neg h]
   have h2 : a = -(-a) := by omega
   conv => lhs; rw [h2]
   rw [Int.neg_tdiv, Int.tdiv_eq_ediv_of_nonneg (by omega)]
 exact ⟨h, by rw [<- h]; exact Int.tmod_def a 1000000000⟩
theorem c3w (a : Int) (ha : -1000000000000000000 <= a /\ a <= 1000000000000000000) : Runs Tryz.prog 165 [.val (.int .i64 a), .val (.int .i64 1000000000)] [] (Det (.val (.int .i64 (a / 1000000000))) []) := by
 refine Runs.mk a0k Tryz.call165 Tryz.func165 rfl Tryz.ntmps165 Tryz.results165 rfl ?_
 obtain ⟨t1, t2⟩ := td9 a
 (repeat' (first
  | refine SP ?_
  | (apply a0a <;> intro hb <;> (try simp only [nS, nT, eq_self, reduceCtorEq] at hb) <;> (try (exfalso; fail; done)))
  | refine a0c ?_
  | refine OB ?_
  | exact RT []
  ))
 all_goals (rw [t2] at hb; simp only [t1, IntKind.wrap_i64]; split at hb <;> omega)
set_option maxHeartbeats 1000000 in
theorem c2p (os : List Osc) (hd : Nat -> Value) (i : Nat) (hi : i < os.length) (hc : ckO (os.getD i os0) = 0) (t : Int) (ht : 0 <= t /\ t <= 1125899906842624) :
  Runs Tryz.prog 138 [oA os hd i, .val (.int .i64 t)] [osR os hd] (Det (.val (.int .i64 (rdF (os.getD i os0) t))) [osR os hd]) := by
 obtain ⟨h1, h2⟩ := a5v hc
 have hs := b5j h1
 have hsl := a4r (os.getD i os0).sg (os.getD i os0).sg.length
 have hl16 := h1.l2
 have hf : (sgR os i).1 = (os.getD i os0).sg.length := rfl
 have hsg := fun k (hk : k < (os.getD i os0).sg.length) => show (spA (os.getD i os0).sg (os.getD i os0).sg.length).getD k sp0 = spE (os.getD i os0).sg k by rw [a3u, if_pos ⟨hk, hk⟩]
 have hwb := fun k (hk : k <= (os.getD i os0).sg.length) => b17 ht hs k (by rw [hsl]; exact hk)
 have hrb := fun k (hk : k <= (os.getD i os0).sg.length) => b1q ht hs k (by rw [hsl]; exact hk)
 have hws : ∀ k, whS t (spA (os.getD i os0).sg (os.getD i os0).sg.length) (k + 1) = whS t (spA (os.getD i os0).sg (os.getD i os0).sg.length) k + ((spA (os.getD i os0).sg (os.getD i os0).sg.length).getD k sp0).p * (dF t ((spA (os.getD i os0).sg (os.getD i os0).sg.length).getD k sp0) / 1000000000) := fun _ => rfl
 have hrs : ∀ k, rsS t (spA (os.getD i os0).sg (os.getD i os0).sg.length) (k + 1) = rsS t (spA (os.getD i os0).sg (os.getD i os0).sg.length) k + ((spA (os.getD i os0).sg (os.getD i os0).sg.length).getD k sp0).p * (dF t ((spA (os.getD i os0).sg (os.getD i os0).sg.length).getD k sp0) % 1000000000) := fun _ => rfl
 have hw0 : whS t (spA (os.getD i os0).sg (os.getD i os0).sg.length) 0 = 0 := rfl
 have hr0 : rsS t (spA (os.getD i os0).sg (os.getD i os0).sg.length) 0 = 0 := rfl
 unfold rdF
 generalize whS t (spA (os.getD i os0).sg (os.getD i os0).sg.length) = WS at *
 generalize rsS t (spA (os.getD i os0).sg (os.getD i os0).sg.length) = RS at *
 refine Runs.mk a0k Tryz.call138 Tryz.func138 rfl Tryz.ntmps138 Tryz.results138 rfl ?_
 (repeat' (first
  | refine SP ?_
  | refine a0c ?_
  ))
 refine a0p (σ := Nat) (fun x => x <= (os.getD i os0).sg.length) (fun x => ⟨[(1, .val (.int .i64 t)), (2, .ptr 1 2 0 0), (5, .val (.int .i64 (WS x))), (6, .val (.int .i64 (RS x))), (7, .val (.int .i64 x))], [osR os hd, .var [.val (.int .i64 (os.getD i os0).ph), .rsl 0 i 2 (os.getD i os0).sg.length (hd i)]]⟩) (fun x => (os.getD i os0).sg.length - x) (0) ?_ ?_ ?_
 ·omega
 ·rw [hw0, hr0]
  exact LT [some 0, some 1]
 rintro k hk
 have hwk := hwb k hk
 have hrk := hrb k hk
 by_cases hkl : k < (os.getD i os0).sg.length
 rotate_left
 ·obtain rfl : k = (os.getD i os0).sg.length := by omega
  have hfl := c3w (RS (os.getD i os0).sg.length) (by omega)
  (repeat' (first
  | refine SP ?_
  | (apply a0a <;> intro hb <;> (try simp only [nS, nT, eq_self, reduceCtorEq] at hb) <;> (try (exfalso; omega)))
  | refine a0q (by decide +kernel) ?_
  | refine a0c ?_
  | ((first | apply a1l (hfl)); exact AS)
  | exact RT [some 0]
  ))
  all_goals (simp only [IntKind.wrap_i64]; omega)
 have hz : Int.toNat (k : Int) = k := Int.toNat_natCast k
 have hw1 := hwb (k + 1) (by omega)
 have hr1 := hrb (k + 1) (by omega)
 have ha := h1.a0 k hkl
 have hp := h1.p0 k hkl
 have hws := hws k
 have hrs := hrs k
 rw [hsg k hkl] at hws hrs
 have k1 : IntKind.i64.wrap ((k : Int) + 1) = (k : Int) + 1 := by rw [IntKind.wrap_i64]; omega
 have k2 : Int.toNat (IntKind.i64.wrap ((k : Int) + 1)) = k + 1 := by rw [k1]; omega
 have kz : 0 + Int.toNat (k : Int) = k := by omega
 have pz : ((os.getD i os0).sg.getD (Int.toNat (k : Int)) sg0).p = ((os.getD i os0).sg.getD k sg0).p := by rw [hz]
 have hgo : ∀ E : Int, 0 <= E /\ E <= 1125899906842624 -> ((if (spE (os.getD i os0).sg k).e < t then (spE (os.getD i os0).sg k).e else t) = E) ->
   (E - ((os.getD i os0).sg.getD k sg0).a <= 0 -> WS (k + 1) = WS k /\ RS (k + 1) = RS k) /\
   (0 < E - ((os.getD i os0).sg.getD k sg0).a -> IntKind.i64.wrap (WS k + IntKind.i64.wrap (IntKind.i64.wrap ((E - ((os.getD i os0).sg.getD k sg0).a).tdiv 1000000000) * ((os.getD i os0).sg.getD k sg0).p)) = WS (k + 1) /\
    IntKind.i64.wrap (RS k + IntKind.i64.wrap ((E - ((os.getD i os0).sg.getD k sg0).a).tmod 1000000000 * ((os.getD i os0).sg.getD k sg0).p)) = RS (k + 1)) := fun E hE hEe => by
  have ea : (spE (os.getD i os0).sg k).a = ((os.getD i os0).sg.getD k sg0).a := rfl
  have ep : (spE (os.getD i os0).sg k).p = ((os.getD i os0).sg.getD k sg0).p := rfl
  unfold dF at hws hrs
  rw [hEe, ea, ep] at hws hrs
  generalize hN : E - ((os.getD i os0).sg.getD k sg0).a = N at *
  refine ⟨fun h => ?_, fun h => ?_⟩
  ·rw [if_neg (by omega)] at hws hrs
   constructor
   ·rw [hws]; simp
   ·rw [hrs]; simp
  ·rw [if_pos (by omega)] at hws hrs
   obtain ⟨t1, t2⟩ := td9 N
   rw [if_pos (by omega)] at t1 t2
   have hq : N - 1000000000 * (N / 1000000000) = N % 1000000000 := by omega
   rw [hq] at t2
   have m1 := b0v hp (d := N / 1000000000) (B := 1125899) (by omega)
   have m2 := b0v hp (d := N % 1000000000) (B := 1000000000) (by omega)
   have c1 : N / 1000000000 * ((os.getD i os0).sg.getD k sg0).p = ((os.getD i os0).sg.getD k sg0).p * (N / 1000000000) := Int.mul_comm ..
   have c2 : N % 1000000000 * ((os.getD i os0).sg.getD k sg0).p = ((os.getD i os0).sg.getD k sg0).p * (N % 1000000000) := Int.mul_comm ..
   have w1 : IntKind.i64.wrap (N / 1000000000) = N / 1000000000 := by rw [IntKind.wrap_i64]; omega
   have w2 : IntKind.i64.wrap (N % 1000000000) = N % 1000000000 := by rw [IntKind.wrap_i64]; omega
   rw [t1, t2, w1, c1, c2]
   generalize ((os.getD i os0).sg.getD k sg0).p * (N / 1000000000) = x1 at *
   generalize ((os.getD i os0).sg.getD k sg0).p * (N % 1000000000) = x2 at *
   constructor
   ·rw [hws, IntKind.wrap_i64, IntKind.wrap_i64]; omega
   ·rw [hrs, IntKind.wrap_i64, IntKind.wrap_i64]; omega
 by_cases c1 : k + 1 < (os.getD i os0).sg.length /\ ((os.getD i os0).sg.getD (k + 1) sg0).a < t
 ·obtain ⟨c1, c1'⟩ := c1
  have hb1 := h1.a0 (k + 1) c1
  obtain ⟨g1, g2⟩ := hgo (((os.getD i os0).sg.getD (k + 1) sg0).a) (by omega) (by unfold spE; simp only [if_pos c1, if_pos c1'])
  clear hgo hws hrs
  have wn : IntKind.i64.wrap (((os.getD i os0).sg.getD (Int.toNat (IntKind.i64.wrap ((k : Int) + 1))) sg0).a - ((os.getD i os0).sg.getD (Int.toNat (k : Int)) sg0).a) = ((os.getD i os0).sg.getD (k + 1) sg0).a - ((os.getD i os0).sg.getD k sg0).a := by rw [k2, hz, IntKind.wrap_i64]; omega
  have c1'' : ((os.getD i os0).sg.getD (Int.toNat (IntKind.i64.wrap ((k : Int) + 1))) sg0).a < t := by rw [k2]; exact c1'
  by_cases c3 : ((os.getD i os0).sg.getD (k + 1) sg0).a - ((os.getD i os0).sg.getD k sg0).a <= 0
  ·obtain ⟨g1, g1'⟩ := g1 c3
   (repeat' (first
  | refine SP ?_
  | (apply a0a <;> intro hb <;> (try simp only [nS, nT, eq_self, reduceCtorEq] at hb) <;> (try (exfalso; omega)))
  | refine a0c ?_
  | refine OB ?_
  | (apply a0i (Subtype.mk (k + 1) (by first | omega | (simp only; omega))); (focus (rw [g1, g1']; exact LT [some 0, some 1])); (all_goals (try (first | (simp only; omega)))))
  ))
  ·obtain ⟨g2, g2'⟩ := g2 (by omega)
   rw [<- wn, <- pz] at g2 g2'
   (repeat' (first
  | refine SP ?_
  | (apply a0a <;> intro hb <;> (try simp only [nS, nT, eq_self, reduceCtorEq] at hb) <;> (try (exfalso; omega)))
  | refine a0c ?_
  | refine OB ?_
  | (apply a0i (Subtype.mk (k + 1) (by first | omega | (simp only; omega))); (focus (rw [<- g2, <- g2']; exact LT [some 0, some 1])); (all_goals (try (first | (simp only; omega)))))
  ))
 ·obtain ⟨g1, g2⟩ := hgo t (by omega) (by
   unfold spE
   simp only
   by_cases h : k + 1 < (os.getD i os0).sg.length
   ·rw [if_pos h, if_neg (fun h' => c1 ⟨h, h'⟩)]
   ·rw [if_neg h]; split <;> omega)
  clear hgo hws hrs
  have wn : IntKind.i64.wrap (t - ((os.getD i os0).sg.getD (Int.toNat (k : Int)) sg0).a) = t - ((os.getD i os0).sg.getD k sg0).a := by rw [hz, IntKind.wrap_i64]; omega
  have c1'' : k + 1 < (os.getD i os0).sg.length -> ((os.getD i os0).sg.getD (Int.toNat (IntKind.i64.wrap ((k : Int) + 1))) sg0).a < t -> False := fun h => by rw [k2]; exact fun h' => c1 ⟨h, h'⟩
  by_cases c3 : t - ((os.getD i os0).sg.getD k sg0).a <= 0
  ·obtain ⟨g1, g1'⟩ := g1 c3
   (repeat' (first
  | refine SP ?_
  | (apply a0a <;> intro hb <;> (try simp only [nS, nT, eq_self, reduceCtorEq] at hb) <;> (try (exfalso; (first | omega | exact c1'' (by omega) hb); done)))
  | refine a0c ?_
  | refine OB ?_
  | (apply a0i (Subtype.mk (k + 1) (by first | omega | (simp only; omega))); (focus (rw [g1, g1']; exact LT [some 0, some 1])); (all_goals (try (first | (simp only; omega)))))
  ))
  ·obtain ⟨g2, g2'⟩ := g2 (by omega)
   rw [<- wn, <- pz] at g2 g2'
   (repeat' (first
  | refine SP ?_
  | (apply a0a <;> intro hb <;> (try simp only [nS, nT, eq_self, reduceCtorEq] at hb) <;> (try (exfalso; (first | omega | exact c1'' (by omega) hb); done)))
  | refine a0c ?_
  | refine OB ?_
  | (apply a0i (Subtype.mk (k + 1) (by first | omega | (simp only; omega))); (focus (rw [<- g2, <- g2']; exact LT [some 0, some 1])); (all_goals (try (first | (simp only; omega)))))
  ))
end Go.Vx.L58

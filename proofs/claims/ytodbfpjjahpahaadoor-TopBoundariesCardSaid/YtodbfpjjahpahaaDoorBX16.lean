/- Lemmas of a small executor for the model, and contracts of functions, used for the law that this claim proves. No condition. -/
import Derived.Test.YtodbfpjjahpahaaDoorBYA
import Derived.Test.YtodbfpjjahpahaaDoorBYB
import Derived.Test.YtodbfpjjahpahaaDoorBYC
import Derived.Test.YtodbfpjjahpahaaDoorBYD
set_option linter.unusedSimpArgs false
set_option linter.unusedVariables false
set_option maxRecDepth 100000
namespace Go.Vx.L42.B
open Go Go.Proofs Go.Vx.L42
theorem b2c (m : Int) (l : List Ed) (cap : Option Nat) (hl : l.length <= maxLen) (ns : List Nd) (cap' : Option Nat) (hn : ns.length <= maxLen) (hwn : ∀ x, wfD (owD (ns.getD x nd0))) :
  Runs Tryd.prog 3 [aN m l cap ns cap'] [gB l, ndB ns] (Det (.sb true) [gB l, ndB ns]) := by
 by_cases h : 6 < ns.length \/ 20 < l.length \/ (∃ x, x < ns.length /\ b67 (ns.getD x nd0) = true) \/ ckE m l ns ≠ 0
 ·exact c97 m l cap hl ns cap' hn hwn h
 ·simp only [not_or, not_exists, not_and, ne_eq, Classical.not_not] at h
  obtain ⟨h6, h20, hb, hc⟩ := h
  obtain ⟨_, hc2, _⟩ := b17 hc
  subst hc2
  have hN : NOK ns l := ⟨hc, hwn⟩
  have hb0 : ∀ x, x < ns.length -> b67 (ns.getD x nd0) = false := fun x hx => by simpa using hb x hx
  have hQ := c9l hN hb0
  have h1 := hN.parts.2.1.1
  have : ns.length = 1 \/ ns.length = 2 \/ ns.length = 3 \/ ns.length = 4 \/ ns.length = 5 \/ ns.length = 6 := by omega
  rcases this with e | e | e | e | e | e
  ·exact c80 l cap hl (by omega) ns cap' e hQ hb0
  ·exact c9f l cap hl (by omega) ns cap' e hQ hb0
  ·exact c8w l cap hl (by omega) ns cap' e hQ hb0
  ·exact c9b l cap hl (by omega) ns cap' e hQ hb0
  ·exact c9q l cap hl (by omega) ns cap' e hQ hb0
  ·exact c9m l cap hl (by omega) ns cap' e hQ hb0
end Go.Vx.L42.B

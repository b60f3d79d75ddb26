/- Lemmas of a small executor for the model, and contracts of functions, used for the law that this claim proves. No condition. -/
import Derived.Test.YtodbfpjjahpahaaGreatDoorEPTB
import Derived.Test.YtodbfpjjahpahaaGreatDoorEW3
import Derived.Test.YtodbfpjjahpahaaGreatDoorERBA
set_option linter.unusedSimpArgs false
set_option linter.unusedVariables false
set_option maxRecDepth 100000
namespace Go.Vx.L58
open Go Go.Proofs
section
variable {s : Scn} {v : Nat} {d : Int} {c : Option Nat}
end
end Go.Vx.L58
set_option maxRecDepth 100000
namespace Go.Vx.L58
open Go Go.Proofs Go.Vx.L58.PT
def Flat (s : Scn) : Prop := ∀ x, x < s.os.length -> (s.os.getD x os0).sg = [⟨0, 0⟩]
end Go.Vx.L58
set_option maxRecDepth 100000
namespace Go.Vx.L58
open Go Go.Proofs
end Go.Vx.L58
set_option maxRecDepth 100000
namespace Go.Vx.L58
open Go Go.Proofs
theorem b8b {n : Nat} (h : 2 <= n) : d1m n = none := by
 match n, h with
 | n + 2, _ => rfl
theorem b5n (s : Scn) (ok : SOk s) (hc : ckS s = 0) {v : Nat} (hv : v < s.ns.length) (hU : 2 <= (upL s v).length) {x : Nat} (hx : x < wyM s v) :
  wyM s v + 1 <= (upL s v).length /\ ∃ y : Nat, y < s.ns.length /\ (upL s v).reverse.getD ((upL s v).length - 1 - wyM s v + (x + 1)) 0 = (y : Int) /\ (upF s y (ptM s y)).t = (wyS s v).T.getD x 0 /\ (upF s y (ptM s y)).b = (wyS s v).B.getD x 0 := by
 have hM := b1x ok hc hv
 have hb := a8w ok hc hv
 have e1 : (wyS s v).T.getD x 0 = ((trS s).getD ((upL s v).getD (wyM s v - x - 1) 0).toNat br0).t := a62 (fun i => ((trS s).getD ((upL s v).getD (i - 1) 0).toNat br0).t) (wyM s v) (wyM s v) x hx
 have e2 : (wyS s v).B.getD x 0 = ((trS s).getD ((upL s v).getD (wyM s v - x - 1) 0).toNat br0).b := a62 (fun i => ((trS s).getD ((upL s v).getD (i - 1) 0).toNat br0).b) (wyM s v) (wyM s v) x hx
 have hr := a5a (upL s v) ((upL s v).length - 1 - wyM s v + (x + 1)) (by omega)
 rw [show (upL s v).length - 1 - ((upL s v).length - 1 - wyM s v + (x + 1)) = wyM s v - x - 1 by omega] at hr
 have hy := hb.2 (wyM s v - x - 1) (by omega)
 have hst := (b3b (s := s) (v := v) (j := wyM s v - x - 1) (by omega)).1
 obtain ⟨y, e⟩ := Int.eq_ofNat_of_zero_le hy.1
 rw [e] at hr hy hst e1 e2
 rw [Int.toNat_natCast] at hst e1 e2
 rcases c3j ok hc (x := y) (by omega) with ⟨_, h2⟩ | ⟨_, h2, _⟩
 ·rw [h2] at hst; exact absurd hst (by decide)
 ·refine ⟨hM, y, by omega, hr, ?_, ?_⟩
  ·rw [e1, h2]
  ·rw [e2, h2]
end Go.Vx.L58

/- Lemmas of a small executor for the model, and contracts of functions, used for the law that this claim proves. No condition. -/
import Derived.Test.YtpohlkhnilcfnaaK11
import Derived.Test.YtpohlkhnilcfnaaVx21
import Derived.Test.YtpohlkhnilcfnaaRows
set_option linter.unusedSimpArgs false
set_option linter.unusedVariables false
set_option maxRecDepth 100000
namespace Go.Vx.I23
open Go Go.Proofs Go.Proofs.Ytpohlkhnilcfnaa
open Go.ChangeShapes Go.WideShapes Go.RowKit Go.Deep
theorem own : ownKnob Try.prog.godebug = none := by kernel_rfl
theorem laid : laidOutB Try.prog = true := by kernel_rfl

/-- A slice of intervals that comes in. -/
theorem open_ivs {H : Type} {enc : TypeId × Value → H} {W : World} {base : Nat} {v : Value} {d : DataW H} {p : List MemPlace} (hval : Value.okWide Try.prog W .any base 22 v) (hd : DataW.Trod enc Try.prog W 0 (fun _ => true) true 22 v d p) :
    ∃ (l : List Iv) (cap : Option Nat) (o : Option Loc), (∀ lc, o = some lc → lc.g < W.heap.size) ∧ ∀ (ι : Lay) (b : Nat), ι b = o → rel ι (.sl b 2 0 l.length cap) v ∧ BR ι W b (.arr false 31 2 l.length (ivF l)) := by
  obtain ⟨n, F, cap, o, _, h1, _, h2⟩ := open_rows Try.underlying22 Try.underlying31 (by kernel_rfl) (by kernel_rfl) (fun j => [IntKind.i64, .i64].getD j .i64)
    (fun j f hj => kindsB_get (P := Try.prog) _ [.i64, .i64] (by kernel_rfl) j f (by simpa using hj)) hval hd (by decide)
  have hlen : ((List.range n).map fun i => (F i 0, F i 1)).length = n := by simp
  refine ⟨(List.range n).map fun i => (F i 0, F i 1), cap, o, h1, fun ι b hb => ?_⟩
  rw [hlen]
  refine ⟨(h2 ι b hb).1, (h2 ι b hb).2 _ fun i hi j hj => ?_⟩
  have e : ((List.range n).map fun i => (F i 0, F i 1)).getD i (0, 0) = (F i 0, F i 1) := by
    simp [List.getD_eq_getElem?_getD, hi]
  have hj' : j < 2 := hj
  have : j = 0 ∨ j = 1 := by omega
  show nth (ivC (((List.range n).map fun i => (F i 0, F i 1)).getD i (0, 0))) j = _
  rw [e]
  rcases this with rfl | rfl <;> rfl
/-- One block. -/
def lay1 (o : Option Loc) : Lay := fun b => match b with
  | 0 => o
  | _ => none
theorem lay1_lt {o : Option Loc} {n : Nat} (h : ∀ lc, o = some lc → lc.g < n) : ∀ b lc, lay1 o b = some lc → lc.g < n := fun b lc hb => by
  cases b with
  | zero => exact h lc hb
  | succ b => cases hb
theorem bl1_br {o : Option Loc} {W : World} {k : Blk} (h : BR (lay1 o) W 0 k) : ∀ b, BR (lay1 o) W b (blL [k] b) := fun b => by
  cases b with
  | zero => exact h
  | succ b => trivial
theorem bl1_ro {t e n : Nat} {c : Nat → Nat → AV} : ∀ b, (blL [.arr false t e n c] b).rw = false := fun b => by
  cases b <;> rfl
theorem lay1_none {o : Option Loc} {k : Blk} : ∀ b, [k].length ≤ b → lay1 o b = none := fun b hb => by
  cases b with
  | zero => simp at hb
  | succ b => rfl

end Go.Vx.I23

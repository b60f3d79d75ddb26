/- Lemmas of a small executor for the model, and contracts of functions, used for the law that this claim proves. No condition. -/
import Derived.Test.YtblcjjlggfpehaaBC7
import Derived.Test.YtblcjjlggfpehaaBW3
set_option linter.unusedSimpArgs false
set_option linter.unusedVariables false
set_option maxRecDepth 100000
namespace Go.Vx.L53
open Go Go.Proofs
abbrev gL (l : List En) : Blk := .arr false 53 6 l.length (enF l)
abbrev aL (l : List En) (cap : Option Nat) : AV := .sl 0 6 0 l.length cap
theorem take_snoc {α : Type} (l : List α) (k : Nat) (d : α) (h : k < l.length) : l.take (k + 1) = l.take k ++ [l.getD k d] := by
  rw [List.take_add_one, List.getElem?_eq_getElem h, List.getD_eq_getElem?_getD, List.getElem?_eq_getElem h]; rfl
theorem getD_mem {α : Type} (l : List α) (k : Nat) (d : α) (h : k < l.length) : l.getD k d ∈ l := by
  rw [List.getD_eq_getElem?_getD, List.getElem?_eq_getElem h]; exact List.getElem_mem h
def keyE (e : En) : List Int := [e.k, e.nd, e.p, e.m]
/-- The messages' keys. -/
def keysT : List En → List (List Int)
  | [] => []
  | e :: r => if trB e then keyE e :: keysT r else keysT r
theorem keysT_snoc (l : List En) (e : En) : keysT (l ++ [e]) = if trB e then keysT l ++ [keyE e] else keysT l := by
  induction l with
  | nil => simp only [List.nil_append, keysT]
  | cons x l ih =>
    simp only [List.cons_append, keysT, ih]
    split <;> split <;> rfl
theorem mem_keysT (l : List En) (q : List Int) : q ∈ keysT l ↔ ∃ x ∈ l, trB x ∧ keyE x = q := by
  induction l with
  | nil => simp [keysT]
  | cons x l ih =>
    unfold keysT
    split
    · rename_i h
      simp only [List.mem_cons, ih, exists_eq_or_imp]
      constructor
      · rintro (rfl | h2)
        · exact .inl ⟨h, rfl⟩
        · exact .inr h2
      · rintro (⟨_, rfl⟩ | h2)
        · exact .inl rfl
        · exact .inr h2
    · rename_i h
      rw [ih]
      constructor
      · rintro ⟨y, h1, h2⟩; exact ⟨y, by simp [h1], h2⟩
      · rintro ⟨y, h1, h2, h3⟩
        rcases List.mem_cons.1 h1 with rfl | h1
        · exact absurd h2 h
        · exact ⟨y, h1, h2, h3⟩
/-- The last entry of a node. -/
def lastN (l : List En) (n : Int) : Option En := l.foldl (fun o e => if e.nd = n then some e else o) none
theorem lastN_snoc (l : List En) (e : En) (n : Int) : lastN (l ++ [e]) n = if e.nd = n then some e else lastN l n := by
  unfold lastN; rw [List.foldl_append]; rfl
def nodesL (l : List En) : List (List Int) := l.foldl (fun ks e => addKey ks [e.nd]) []
theorem nodesL_snoc (l : List En) (e : En) : nodesL (l ++ [e]) = addKey (nodesL l) [e.nd] := by
  unfold nodesL; rw [List.foldl_append]; rfl
theorem mem_addKey (ks : List (List Int)) (n q : List Int) : q ∈ addKey ks n ↔ q ∈ ks ∨ q = n := by
  unfold addKey
  cases h : ks.contains n
  · simp
  · rw [cond_true]
    constructor
    · exact .inl
    · rintro (h2 | rfl)
      · exact h2
      · exact List.contains_iff_mem.1 h
theorem snoc_ind {α : Type} {p : List α → Prop} (h0 : p []) (h : ∀ l x, p l → p (l ++ [x])) (l : List α) : p l := by
  have : ∀ r : List α, p r.reverse := by
    intro r
    induction r with
    | nil => exact h0
    | cons x r ih => rw [List.reverse_cons]; exact h _ _ ih
  have := this l.reverse
  rwa [List.reverse_reverse] at this
theorem mem_nodesL (l : List En) (n : Int) : [n] ∈ nodesL l ↔ lastN l n ≠ none := by
  induction l using snoc_ind with
  | h0 => simp [nodesL, lastN]
  | h l e ih =>
    rw [nodesL_snoc, mem_addKey, ih, lastN_snoc]
    simp only [List.cons.injEq, and_true]
    split
    · rename_i h; simp [h]
    · rename_i h
      constructor
      · rintro (h2 | h2)
        · exact h2
        · exact absurd h2.symm h
      · exact .inl
theorem cont_nodesL (l : List En) (n : Int) : (nodesL l).contains [n] = (lastN l n).isSome := by
  rw [Bool.eq_iff_iff, List.contains_iff_mem, mem_nodesL, Option.isSome_iff_ne_none]
def lastD (l : List En) (n : Int) : En := (lastN l n).getD en0
/-- The map of the last entries. -/
def lastC (l : List En) (q : List Int) : AV := .agg (enC (lastD l (q.headD 0)))
abbrev ttC (_ : List Int) : AV := .val (.bool true)
abbrev seenB (l : List En) : Blk := .map (some 4) (keysT l) ttC
abbrev lastB (l : List En) : Blk := .map none (nodesL l) (lastC l)
theorem lastC_flat (l : List En) (q : List Int) : FlatA (lastC l q) := ⟨_, rfl, fun u hu => FlatC.flat (cells := enC) _ u hu⟩
theorem lastB_upd {ρ : Nat → Option Nat} {l l' : List En} {e : En} (h : l' = l ++ [e]) : BSub ρ (lastB l') (.map none (addKey (nodesL l) [e.nd]) (updK (lastC l) [e.nd] (.agg (enC e)))) := by
  subst h
  refine mapa_upd (lastC_flat _) (nodesL_snoc l e).symm ?_ fun q hq hn => ?_
  · have : lastC (l ++ [e]) [e.nd] = .agg (enC e) := by unfold lastC lastD; rw [List.headD_cons, lastN_snoc, if_pos rfl]; rfl
    rw [this]
    exact ⟨_, rfl, subL_flat ρ _ fun u hu => FlatC.flat (cells := enC) _ u hu⟩
  · unfold lastC lastD
    rw [lastN_snoc]
    split
    · rename_i h
      exfalso
      have hall : ∀ l : List En, ∀ q ∈ nodesL l, ∃ n, q = [n] := fun l => by
        induction l using snoc_ind with
        | h0 => simp [nodesL]
        | h l e ih =>
          rw [nodesL_snoc]
          intro q hq
          rcases (mem_addKey _ _ _).1 hq with h | h
          · exact ih q h
          · exact ⟨_, h⟩
      obtain ⟨n, rfl⟩ := hall _ q hq
      exact hn (by rw [h]; rfl)
    · rfl
theorem lastB_same {ρ : Nat → Option Nat} {l : List En} : BSub ρ (lastB l) (lastB l) := mapa_same (lastC_flat _) rfl fun _ _ => rfl
theorem seenB_upd {ρ : Nat → Option Nat} {l l' : List En} {e : En} {n : List Int} (h : l' = l ++ [e]) (ht : trB e) (hn : n = keyE e) (hc : (keysT l).contains n = false) : BSub ρ (seenB l') (.map (some 4) (addKey (keysT l) n) (updK ttC n (.val (.bool true)))) := by
  subst h; subst hn
  refine map_updc ?_
  unfold addKey
  rw [hc, cond_false, keysT_snoc, if_pos ht]
theorem seenB_same {ρ : Nat → Option Nat} {l l' : List En} {e : En} (h : l' = l ++ [e]) (ht : ¬ trB e) : BSub ρ (seenB l') (seenB l) := by
  subst h
  refine map_same ?_
  rw [keysT_snoc, if_neg ht]
def twB (pre : List En) (e : En) : Bool := decide (trB e) && (keysT pre).contains (keyE e)
def bkB (pre : List En) (e : En) : Bool := match lastN pre e.nd with
  | some b => decide (b.k ≠ 3 ∧ e.c < b.c)
  | none => false
/-- The error of the order of entries behind others. -/
def ordL : List En → List En → Int
  | _, [] => 0
  | pre, e :: r => if twB pre e then 10 else if bkB pre e then 12 else ordL (pre ++ [e]) r
def firstE : List En → Int
  | [] => 0
  | e :: r => if oneE e = 0 then firstE r else oneE e
/-- The error of a log. -/
def lchk (l : List En) : Int := if 512 < l.length then 6 else if firstE l = 0 then ordL [] l else firstE l
end Go.Vx.L53

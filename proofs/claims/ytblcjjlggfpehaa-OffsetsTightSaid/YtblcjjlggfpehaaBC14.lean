/- Lemmas of a small executor for the model, and contracts of functions, used for the law that this claim proves. No condition. -/
import Derived.Test.YtblcjjlggfpehaaBC13
set_option linter.unusedSimpArgs false
set_option linter.unusedVariables false
set_option maxRecDepth 100000
namespace Go.Vx.L53
open Go Go.Proofs
theorem row_appl {α : Type} {cells : α → List AV} [FlatC cells] {d : α} {ρ : Nat → Option Nat} {rw : Bool} {t e n m k : Nat} {l l' L : List α} (hL : L = l ++ l') (hm : m = l.length) (hk : k = l'.length) (hn : n = L.length) :
    BSub ρ (.arr rw t e n (rowF cells d L)) (.arr true t e (m + k) (appF m (rowF cells d l) fun i j => rowF cells d l' (0 + i) j)) :=
  row_app hL hm hk hn fun i hi j hj => by rw [Nat.zero_add]; exact sub_nth FlatC.flat ρ _ j
/-- A constraint: x[b] - x[a] is at most w. -/
structure Cn where
  a : Int
  b : Int
  w : Int
def cnC (c : Cn) : List AV := [.val (.int .i64 c.a), .val (.int .i64 c.b), .val (.int .i64 c.w)]
def cn0 : Cn := ⟨0, 0, 0⟩
abbrev cnF (l : List Cn) : Nat → Nat → AV := rowF cnC cn0 l
instance : FlatC cnC := ⟨by intro e v hv; simp only [cnC, List.mem_cons, List.not_mem_nil, or_false] at hv; rcases hv with rfl | rfl | rfl <;> exact trivial⟩
abbrev cB (rw : Bool) (l : List Cn) : Blk := .arr rw 33 3 l.length (cnF l)
/-- The index of a node's last entry. -/
def lastF (l : List En) (n : Int) : Nat × Option Nat := l.foldl (fun a e => (a.1 + 1, if e.nd = n then some a.1 else a.2)) (0, none)
def lastI (l : List En) (n : Int) : Option Nat := (lastF l n).2
theorem lastF_fst (l : List En) (n : Int) : (lastF l n).1 = l.length := by
  induction l using snoc_ind with
  | h0 => rfl
  | h l e ih => unfold lastF at *; rw [List.foldl_append]; simp only [List.foldl_cons, List.foldl_nil, ih, List.length_append, List.length_singleton]
theorem lastI_snoc (l : List En) (e : En) (n : Int) : lastI (l ++ [e]) n = if e.nd = n then some l.length else lastI l n := by
  have h := lastF_fst l n
  unfold lastI
  rw [← h]
  unfold lastF
  rw [List.foldl_append]
  simp only [List.foldl_cons, List.foldl_nil]
theorem lastI_nil (n : Int) : lastI [] n = none := rfl
theorem lastI_lt {l : List En} {n : Int} {k : Nat} (h : lastI l n = some k) : k < l.length ∧ (l.getD k en0).nd = n := by
  induction l using snoc_ind with
  | h0 => cases h
  | h l e ih =>
    rw [lastI_snoc] at h
    rw [List.length_append, List.length_singleton]
    split at h
    · obtain rfl := Option.some.inj h
      refine ⟨by omega, ?_⟩
      rw [List.getD_eq_getElem?_getD, List.getElem?_append_right (Nat.le_refl _), Nat.sub_self]; assumption
    · obtain ⟨h1, h2⟩ := ih h
      refine ⟨by omega, ?_⟩
      rw [List.getD_eq_getElem?_getD, List.getElem?_append_left h1, ← List.getD_eq_getElem?_getD]; exact h2
theorem mem_nodesL' (l : List En) (n : Int) : [n] ∈ nodesL l ↔ lastI l n ≠ none := by
  induction l using snoc_ind with
  | h0 => simp [nodesL, lastI_nil]
  | h l e ih =>
    rw [nodesL_snoc, mem_addKey, ih, lastI_snoc]
    simp only [List.cons.injEq, and_true]
    split
    · rename_i h; simp [h]
    · rename_i h
      exact ⟨fun h2 => h2.resolve_right fun h3 => h h3.symm, .inl⟩
theorem cont_nodesL' (l : List En) (n : Int) : (nodesL l).contains [n] = (lastI l n).isSome := by
  rw [Bool.eq_iff_iff, List.contains_iff_mem, mem_nodesL', Option.isSome_iff_ne_none]
def lastV (l : List En) (q : List Int) : Int := (((lastI l (q.headD 0)).getD 0 : Nat) : Int)
abbrev lstB (l : List En) : Blk := .map none (nodesL l) fun q => .val (.int .i64 (lastV l q))
theorem nodesL_one : ∀ l : List En, ∀ q ∈ nodesL l, ∃ n, q = [n] := fun l => by
  induction l using snoc_ind with
  | h0 => simp [nodesL]
  | h l e ih =>
    rw [nodesL_snoc]
    intro q hq
    rcases (mem_addKey _ _ _).1 hq with h | h
    · exact ih q h
    · exact ⟨_, h⟩
theorem lstB_upd {ρ : Nat → Option Nat} {l l' : List En} {e : En} {n : List Int} {x : Int} (h : l' = l ++ [e]) (hn : n = [e.nd]) (hx : x = (l.length : Nat)) :
    BSub ρ (lstB l') (.map none (addKey (nodesL l) n) (updK (fun q => .val (.int .i64 (lastV l q))) n (.val (.int .i64 x)))) := by
  subst h; subst hn; subst hx
  refine map_upd (nodesL_snoc l e).symm fun q hq => ?_
  obtain ⟨n, rfl⟩ := nodesL_one _ q hq
  unfold lastV
  rw [List.headD_cons, lastI_snoc]
  by_cases h : [n] = [e.nd]
  · rw [if_pos h, if_pos (by simpa using h.symm)]; rfl
  · rw [if_neg h, if_neg (fun h2 => h (by rw [h2]))]
/-- What the clock of a node counted between two entries. -/
def spanF (l : List En) (k i : Nat) : Int := if (l.getD k en0).k = 3 then (l.getD i en0).c - (l.getD k en0).c - (l.getD k en0).v else (l.getD i en0).c - (l.getD k en0).c
def btw (k i : Nat) (sp tol : Int) : List Cn := [⟨(k : Int) + 1, (i : Int) + 1, elHi sp tol⟩, ⟨(i : Int) + 1, (k : Int) + 1, -elLo sp tol⟩]
def prevI (l : List En) (i : Nat) : Option Nat := lastI (l.take i) (l.getD i en0).nd
/-- The tolerance or the duration is out of range. -/
def badI (l : List En) (c : Cf) (i : Nat) : Prop := match prevI l i with
  | some k => ¬ elOK (spanF l k i) (tolF c (l.getD i en0).nd)
  | none => False
instance (l : List En) (c : Cf) (i : Nat) : Decidable (badI l c i) := by unfold badI; split <;> infer_instance
def stpI (l : List En) (c : Cf) (i : Nat) : List Cn := match prevI l i with
  | some k => btw k i (spanF l k i) (tolF c (l.getD i en0).nd)
  | none => []
def refI (l : List En) (c : Cf) (i : Nat) : List Cn := if (l.getD i en0).nd = c.ref then [⟨0, (i : Int) + 1, (l.getD i en0).c + c.err⟩, ⟨(i : Int) + 1, 0, c.err - (l.getD i en0).c⟩] else []
def prvI (ps : List PrI) (c : Cf) (i : Nat) : List Cn := [⟨(ps.getD i pr0).a + 1, (ps.getD i pr0).b + 1, c.mx⟩, ⟨(ps.getD i pr0).b + 1, (ps.getD i pr0).a + 1, -c.mn⟩]
/-- One behind the other. -/
def catN (f : Nat → List Cn) : Nat → List Cn
  | 0 => []
  | x + 1 => catN f x ++ f x
theorem catN_len (f : Nat → List Cn) (h : ∀ x, (f x).length ≤ 2) : ∀ x, (catN f x).length ≤ 2 * x
  | 0 => by simp [catN]
  | x + 1 => by unfold catN; rw [List.length_append]; have := catN_len f h x; have := h x; omega
theorem refI_len (l : List En) (c : Cf) (i : Nat) : (refI l c i).length ≤ 2 := by unfold refI; split <;> simp
theorem prvI_len (ps : List PrI) (c : Cf) (i : Nat) : (prvI ps c i).length ≤ 2 := by simp [prvI]
theorem stpI_len (l : List En) (c : Cf) (i : Nat) : (stpI l c i).length ≤ 2 := by unfold stpI; split <;> simp [btw]
def sysC (l : List En) (c : Cf) : List Cn := catN (refI l c) l.length ++ catN (prvI (pairsL l) c) (pairsL l).length ++ catN (stpI l c) l.length
/-- The error of System. -/
def sysE (l : List En) (c : Cf) : Int := if lchk l ≠ 0 then lchk l else if 159 < l.length then 6 else if confE c ≠ 0 then confE c else if ∃ i < l.length, badI l c i then 3 else 0
def sysN (l : List En) (c : Cf) : Int := if sysE l c = 0 then l.length + 1 else 0
def sysA (l : List En) (c : Cf) : List Cn := if sysE l c = 0 then sysC l c else []
theorem one_zero {e : En} (h : oneE e = 0) : (1 ≤ e.k ∧ e.k ≤ 4) ∧ rgE e ∧ fmE e := by
  rcases oneE_is e with ⟨_, h1⟩ | ⟨_, _, h1⟩ | ⟨_, _, _, h1⟩ | ⟨h1, h2, h3, _⟩
  · rw [h1] at h; cases h
  · rw [h1] at h; cases h
  · rw [h1] at h; cases h
  · exact ⟨h1, h2, h3⟩
theorem firstE_all : ∀ {l : List En}, firstE l = 0 → ∀ e ∈ l, oneE e = 0
  | [], _, e, he => by simp at he
  | x :: r, h, e, he => by
    unfold firstE at h
    split at h
    · rename_i h1
      rcases List.mem_cons.1 he with rfl | he
      · exact h1
      · exact firstE_all h e he
    · exact absurd h (by assumption)
theorem lchk_rg {l : List En} (h : lchk l = 0) {i : Nat} (hi : i < l.length) : rgE (l.getD i en0) := (one_zero (firstE_all (lchk_zero h).2.1 _ (getD_mem l i en0 hi))).2.1
end Go.Vx.L53

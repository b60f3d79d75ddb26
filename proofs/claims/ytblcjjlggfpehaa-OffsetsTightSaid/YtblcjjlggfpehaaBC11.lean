/- Lemmas of a small executor for the model, and contracts of functions, used for the law that this claim proves. No condition. -/
import Derived.Test.YtblcjjlggfpehaaBC10
set_option linter.unusedSimpArgs false
set_option linter.unusedVariables false
set_option maxRecDepth 100000
namespace Go.Vx.L53
open Go Go.Proofs
abbrev isS (e : En) (q : List Int) : Prop := e.k = 1 ∧ keyE e = q
def mtsF (l : List En) (q : List Int) : Nat × List Nat := l.foldl (fun a e => (a.1 + 1, if isS e q then a.2 ++ [a.1] else a.2)) (0, [])
/-- Where a message was sent. -/
def mts (l : List En) (q : List Int) : List Nat := (mtsF l q).2
theorem mtsF_fst (l : List En) (q : List Int) : (mtsF l q).1 = l.length := by
  induction l using snoc_ind with
  | h0 => rfl
  | h l e ih => unfold mtsF at *; rw [List.foldl_append]; simp only [List.foldl_cons, List.foldl_nil, ih, List.length_append, List.length_singleton]
theorem mts_snoc (l : List En) (e : En) (q : List Int) : mts (l ++ [e]) q = if isS e q then mts l q ++ [l.length] else mts l q := by
  have h := mtsF_fst l q
  unfold mts
  rw [← h]
  unfold mtsF
  rw [List.foldl_append]
  simp only [List.foldl_cons, List.foldl_nil]
theorem mts_nil (q : List Int) : mts [] q = [] := rfl
theorem mts_lt (l : List En) (q : List Int) : ∀ k ∈ mts l q, k < l.length ∧ isS (l.getD k en0) q := by
  induction l using snoc_ind with
  | h0 => simp [mts_nil]
  | h l e ih =>
    intro k hk
    have old : ∀ k, k < l.length → (l ++ [e]).getD k en0 = l.getD k en0 := fun k h => by
      rw [List.getD_eq_getElem?_getD, List.getD_eq_getElem?_getD, List.getElem?_append_left h]
    rw [mts_snoc] at hk
    rw [List.length_append, List.length_singleton]
    split at hk
    · rename_i h
      rcases List.mem_append.1 hk with hk | hk
      · obtain ⟨h1, h2⟩ := ih k hk
        rw [old k h1]; exact ⟨by omega, h2⟩
      · obtain rfl := List.mem_singleton.1 hk
        refine ⟨by omega, ?_⟩
        rw [List.getD_eq_getElem?_getD, List.getElem?_append_right (Nat.le_refl _), Nat.sub_self]; exact h
    · obtain ⟨h1, h2⟩ := ih k hk
      rw [old k h1]; exact ⟨by omega, h2⟩
def sentK (l : List En) : List (List Int) := l.foldl (fun ks e => if e.k = 1 then addKey ks (keyE e) else ks) []
theorem sentK_snoc (l : List En) (e : En) : sentK (l ++ [e]) = if e.k = 1 then addKey (sentK l) (keyE e) else sentK l := by
  unfold sentK; rw [List.foldl_append]; rfl
def sentV (l : List En) (q : List Int) : Nat := (mts l q).getLast?.getD 0
theorem sentV_snoc (l : List En) (e : En) (q : List Int) : sentV (l ++ [e]) q = if isS e q then l.length else sentV l q := by
  unfold sentV
  rw [mts_snoc]
  split
  · rw [List.getLast?_concat]; rfl
  · rfl
theorem mem_sentK (l : List En) (q : List Int) : q ∈ sentK l ↔ mts l q ≠ [] := by
  induction l using snoc_ind with
  | h0 => simp [sentK, mts_nil]
  | h l e ih =>
    rw [sentK_snoc, mts_snoc]
    by_cases h : e.k = 1
    · rw [if_pos h, mem_addKey, ih]
      by_cases h2 : keyE e = q
      · rw [if_pos ⟨h, h2⟩]; simp [h2]
      · rw [if_neg (fun h3 => h2 h3.2)]
        exact ⟨fun h3 => h3.resolve_right (fun h4 => h2 h4.symm), .inl⟩
    · rw [if_neg h, if_neg (fun h3 => h h3.1), ih]
abbrev sentB (l : List En) : Blk := .map (some 4) (sentK l) fun q => .val (.int .i64 (sentV l q : Nat))
theorem sentB_upd {ρ : Nat → Option Nat} {l l' : List En} {e : En} {n : List Int} {x : Int} (h : l' = l ++ [e]) (hk : e.k = 1) (hn : n = keyE e) (hx : x = (l.length : Nat)) :
    BSub ρ (sentB l') (.map (some 4) (addKey (sentK l) n) (updK (fun q => .val (.int .i64 (sentV l q : Nat))) n (.val (.int .i64 x)))) := by
  subst h; subst hn; subst hx
  refine map_upd ?_ fun q _ => ?_
  · rw [sentK_snoc, if_pos hk]
  · rw [sentV_snoc]
    by_cases h : q = keyE e
    · rw [if_pos h, if_pos ⟨hk, h.symm⟩]
    · rw [if_neg h, if_neg (fun h2 => h h2.2.symm)]
theorem sentB_same {ρ : Nat → Option Nat} {l l' : List En} {e : En} (h : l' = l ++ [e]) (hk : ¬ e.k = 1) : BSub ρ (sentB l') (sentB l) := by
  subst h
  refine map_mk ?_ fun q _ => ?_
  · rw [sentK_snoc, if_neg hk]
  · rw [sentV_snoc, if_neg (fun h => hk h.1)]; exact sub_refl_val _ _
theorem ordL_nodup : ∀ (r pre : List En), ordL pre r = 0 → (keysT pre).Nodup → (keysT (pre ++ r)).Nodup
  | [], pre, _, h => by rwa [List.append_nil]
  | e :: r, pre, h, hn => by
    unfold ordL at h
    split at h
    · cases h
    · rename_i h1
      split at h
      · cases h
      · rw [show pre ++ e :: r = (pre ++ [e]) ++ r by simp]
        refine ordL_nodup r _ h ?_
        rw [keysT_snoc]
        split
        · rename_i ht
          rw [List.nodup_append]
          refine ⟨hn, by simp, ?_⟩
          intro a ha b hb
          rw [List.mem_singleton] at hb
          subst hb
          rintro rfl
          apply h1
          unfold twB
          rw [decide_eq_true ht, Bool.true_and, List.contains_iff_mem]; exact ha
        · exact hn
theorem lchk_zero {l : List En} (h : lchk l = 0) : l.length ≤ 512 ∧ firstE l = 0 ∧ ordL [] l = 0 := by
  unfold lchk at h
  split at h
  · cases h
  · split at h
    · exact ⟨by omega, by assumption, h⟩
    · exact absurd h (by assumption)
theorem mts_one (l : List En) (q : List Int) (h : (keysT l).Nodup) : mts l q = [] ∨ ∃ k, mts l q = [k] := by
  induction l using snoc_ind with
  | h0 => exact .inl rfl
  | h l e ih =>
    rw [keysT_snoc] at h
    have hn : (keysT l).Nodup := by
      split at h
      · exact (List.nodup_append.1 h).1
      · exact h
    rw [mts_snoc]
    split
    · rename_i he
      rw [if_pos (.inl he.1)] at h
      rcases hm : mts l q with _ | ⟨k, t⟩
      · exact .inr ⟨_, rfl⟩
      · exfalso
        obtain ⟨h1, h2⟩ := mts_lt l q k (by rw [hm]; simp)
        have h3 : q ∈ keysT l := (mem_keysT l q).2 ⟨_, getD_mem l k en0 h1, .inl h2.1, h2.2⟩
        exact (List.nodup_append.1 h).2.2 q h3 _ (List.mem_singleton.2 rfl) he.2.symm
    · exact ih hn
theorem mts_uniq {l : List En} (h : lchk l = 0) (q : List Int) : mts l q = if (sentK l).contains q = true then [sentV l q] else [] := by
  have hn := ordL_nodup l [] (lchk_zero h).2.2 List.nodup_nil
  rw [List.nil_append] at hn
  rcases mts_one l q hn with h1 | ⟨k, h1⟩
  · rw [if_neg, h1]
    rw [List.contains_iff_mem, mem_sentK, h1]; simp
  · rw [if_pos]
    · unfold sentV; rw [h1]; rfl
    · rw [List.contains_iff_mem, mem_sentK, h1]; simp
structure PrI where
  a : Int
  b : Int
def prC (p : PrI) : List AV := [.val (.int .i64 p.a), .val (.int .i64 p.b)]
def pr0 : PrI := ⟨0, 0⟩
abbrev prF (l : List PrI) : Nat → Nat → AV := rowF prC pr0 l
instance : FlatC prC := ⟨by intro e v hv; simp only [prC, List.mem_cons, List.not_mem_nil, or_false] at hv; rcases hv with rfl | rfl <;> exact trivial⟩
abbrev prB (l : List PrI) : Blk := .arr true 60 2 l.length (prF l)
def askQ (e : En) : List Int := [1, e.p, e.nd, e.m]
def prOf (i : Nat) (ks : List Nat) : List PrI := ks.map fun (k : Nat) => (⟨(k : Int), (i : Int)⟩ : PrI)
def prS (l : List En) (i : Nat) : List PrI := if (l.getD i en0).k = 2 then prOf i (mts l (askQ (l.getD i en0))) else []
/-- The messages that were sent and received. -/
def pairsT (l : List En) : Nat → List PrI
  | 0 => []
  | x + 1 => pairsT l x ++ prS l x
def pairsL (l : List En) : List PrI := pairsT l l.length
theorem prS_len {l : List En} (h : lchk l = 0) (i : Nat) : (prS l i).length ≤ 1 := by
  unfold prS
  split
  · rw [mts_uniq h]; split <;> simp [prOf]
  · simp
theorem pairsT_len {l : List En} (h : lchk l = 0) (x : Nat) : (pairsT l x).length ≤ x := by
  induction x with
  | zero => simp [pairsT]
  | succ x ih => unfold pairsT; rw [List.length_append]; have := prS_len h x; omega
end Go.Vx.L53

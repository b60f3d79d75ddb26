/- Lemmas of a small executor for the model, and contracts of functions, used for the law that this claim proves. No condition. -/
import Derived.Test.YtodbfpjjahpahaaDoorEP5
set_option linter.unusedSimpArgs false
set_option linter.unusedVariables false
set_option maxRecDepth 100000
namespace Go.Vx.L42
open Go Go.Proofs
/-- An edge seen from its other end. -/
def swE (e : Ed) : Ed := ⟨e.b, e.pb, e.a, e.pa⟩
def flE (i : Nat) (e : Ed) : Ed := if i % 2 = 0 then swE e else e
def rvE (l : List Ed) : Nat → List Ed
  | 0 => []
  | k + 1 => rvE l k ++ [flE (l.length - 1 - k) (l.getD (l.length - 1 - k) ed0)]
theorem rvE_len (l : List Ed) : ∀ k, (rvE l k).length = k
  | 0 => rfl
  | k + 1 => by rw [rvE, List.length_append, rvE_len l k]; rfl
theorem flE_or (i : Nat) (e : Ed) : flE i e = e ∨ flE i e = swE e := by
  unfold flE
  split
  · exact .inr rfl
  · exact .inl rfl
theorem flE_ends (i : Nat) (e : Ed) : (endsL [flE i e]).Perm (endsL [e]) := by
  rcases flE_or i e with h | h <;> rw [h]
  exact List.Perm.swap _ _ _
theorem rvE_ends (l : List Ed) : ∀ k, k ≤ l.length → (endsL (rvE l k)).Perm (endsL (l.drop (l.length - k)))
  | 0, _ => by rw [Nat.sub_zero, List.drop_length]; exact List.Perm.refl _
  | k + 1, h => by
    have ih := rvE_ends l k (by omega)
    have hj : l.length - 1 - k < l.length := by omega
    have e1 : l.drop (l.length - (k + 1)) = l.getD (l.length - 1 - k) ed0 :: l.drop (l.length - k) := by
      rw [show l.length - (k + 1) = l.length - 1 - k by omega, List.drop_eq_getElem_cons hj, List.getD_eq_getElem?_getD, List.getElem?_eq_getElem hj, show l.length - 1 - k + 1 = l.length - k by omega]; rfl
    rw [rvE, endsL_app, e1, show ∀ (x : Ed) (r : List Ed), endsL (x :: r) = endsL [x] ++ endsL r from fun _ _ => rfl]
    exact List.perm_append_comm.trans ((flE_ends _ _).append ih)
theorem rvE_from (l : List Ed) : ∀ k, k ≤ l.length → ∀ e ∈ rvE l k, ∃ f ∈ l, e = f ∨ e = swE f
  | 0, _, e, h => by cases h
  | k + 1, hk, e, h => by
    rw [rvE, List.mem_append, List.mem_singleton] at h
    rcases h with h | rfl
    · exact rvE_from l k (by omega) e h
    · exact ⟨_, getD_mem l _ ed0 (by omega), flE_or _ _⟩
theorem rvE_mono (l : List Ed) : ∀ (d k : Nat) (e : Ed), e ∈ rvE l k → e ∈ rvE l (k + d)
  | 0, _, _, h => h
  | d + 1, k, e, h => by rw [show k + (d + 1) = (k + d) + 1 from rfl, rvE]; exact List.mem_append_left _ (rvE_mono l d k e h)
theorem rvE_to (l : List Ed) {f : Ed} (hf : f ∈ l) : ∃ e ∈ rvE l l.length, e = f ∨ e = swE f := by
  obtain ⟨i, hi, rfl⟩ := List.mem_iff_getElem.1 hf
  refine ⟨flE i l[i], ?_, flE_or _ _⟩
  have h : flE i l[i] ∈ rvE l ((l.length - 1 - i) + 1) := by
    rw [rvE, show l.length - 1 - (l.length - 1 - i) = i by omega, List.getD_eq_getElem?_getD, List.getElem?_eq_getElem hi]
    exact List.mem_append_right _ (List.mem_singleton.2 rfl)
  have := rvE_mono l i _ _ h
  rwa [show l.length - 1 - i + 1 + i = l.length by omega] at this
theorem swE_adj {e : Ed} {i : Nat} {y : Int} : AdjE (swE e) i y ↔ AdjE e i y := Or.comm
theorem rvE_adj (l : List Ed) {i : Nat} {y : Int} : Adj (rvE l l.length) i y ↔ Adj l i y := by
  constructor
  · rintro ⟨e, he, h⟩
    obtain ⟨f, hf, rfl | rfl⟩ := rvE_from l _ (Nat.le_refl _) e he
    · exact ⟨_, hf, h⟩
    · exact ⟨_, hf, swE_adj.1 h⟩
  · rintro ⟨f, hf, h⟩
    obtain ⟨e, he, rfl | rfl⟩ := rvE_to l hf
    · exact ⟨_, he, h⟩
    · exact ⟨_, he, swE_adj.2 h⟩
theorem ckL_of (n : Int) : ∀ (l : List Ed) (seen : List (List Int)), (∀ e ∈ l, endB n e.a e.pa = true ∧ endB n e.b e.pb = true ∧ e.a ≠ e.b) → (endsL l).Nodup → (∀ x ∈ endsL l, x ∉ seen) → ckL n l seen = 0
  | [], _, _, _, _ => rfl
  | e :: r, seen, h, hd, hs => by
    obtain ⟨h1, h2, h3⟩ := h e (by simp)
    simp only [endsL, List.nodup_cons, List.mem_cons, not_or] at hd hs
    have s1 := hs [e.a, e.pa] (.inl rfl)
    have s2 := hs [e.b, e.pb] (.inr (.inl rfl))
    unfold ckL
    rw [if_neg (by rw [h1, h2]; decide), if_neg h3, if_neg (by simp only [Bool.or_eq_true, List.contains_iff_mem, not_or]; exact ⟨s1, s2⟩)]
    refine ckL_of n r _ (fun x hx => h x (List.mem_cons_of_mem _ hx)) hd.2.2 fun x hx => ?_
    simp only [List.mem_append, List.mem_cons, List.not_mem_nil, or_false, not_or]
    exact ⟨hs x (.inr (.inr hx)), fun q => hd.1.2 (q ▸ hx), fun q => hd.2.1 (q ▸ hx)⟩
theorem ckC_rv {n : Int} {l : List Ed} (h : ckC n l = 0) : ckC n (rvE l l.length) = 0 := by
  obtain ⟨h1, h2, h3⟩ := ckC_partsB h
  obtain ⟨m, rfl, _, _, h4⟩ := ckC_parts h
  have hp := rvE_ends l l.length (Nat.le_refl _)
  rw [Nat.sub_self, List.drop_zero] at hp
  unfold ckC
  rw [if_neg (by omega), if_neg (by rw [rvE_len]; omega)]
  refine ckL_of _ _ _ (fun e he => ?_) (hp.nodup_iff.2 (ckC_nodup h)) (fun x _ q => by cases q)
  obtain ⟨f, hf, rfl | rfl⟩ := rvE_from l _ (Nat.le_refl _) e he
  · exact ⟨(h3 _ hf).1, (h3 _ hf).2, (h4 _ hf).2.2⟩
  · exact ⟨(h3 _ hf).2, (h3 _ hf).1, fun q => (h4 _ hf).2.2 q.symm⟩
theorem ckE_rv {n : Int} {l : List Ed} {ns : List Nd} (h : ckE n l ns = 0) : ckE n (rvE l l.length) ns = 0 := by
  have h1 := (ckE_zero h).1
  have h2 := ckC_rv h1
  unfold ckE at h ⊢
  rw [h1] at h
  rw [h2]
  exact h
theorem IsD.of_rv {n : Nat} {l : List Ed} {a : Nat} {D : List Int} (h : IsD n (rvE l l.length) a D) : IsD n l a D :=
  ⟨h.len, h.low, h.zero, fun i hi y hy ha => h.edge i hi y hy ((rvE_adj l).2 ha), fun i hi h0 => (h.back i hi h0).imp id fun ⟨y, hy, ha, r⟩ => ⟨y, hy, (rvE_adj l).1 ha, r⟩⟩
theorem dsN_rv {l : List Ed} {ns : List Nd} (hN : NOK ns l) (hN' : NOK ns (rvE l l.length)) {x : Nat} (hx : x < ns.length) : dsN ns (rvE l l.length) x = dsN ns l x := by
  funext j
  unfold dsN
  rw [IsD.eq (dsN_is hN' hx).of_rv (dsN_is hN hx)]
theorem exL_rv {l : List Ed} {ns : List Nd} (hN : NOK ns l) (hN' : NOK ns (rvE l l.length)) : ∀ x, x ≤ ns.length → exL ns (rvE l l.length) x = exL ns l x
  | 0, _ => rfl
  | x + 1, h => by
    rw [exL, exL, exL_rv hN hN' x (by omega)]
    unfold exC
    rw [dsN_rv hN hN' (by omega)]
end Go.Vx.L42

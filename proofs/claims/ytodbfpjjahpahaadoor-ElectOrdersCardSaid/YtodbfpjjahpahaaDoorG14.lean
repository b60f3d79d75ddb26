/- Lemmas of a small executor for the model, and contracts of functions, used for the law that this claim proves. No condition. -/
import Derived.Test.YtodbfpjjahpahaaDoorG13
set_option linter.unusedSimpArgs false
set_option linter.unusedVariables false
set_option maxRecDepth 100000
namespace Go.Vx.L42
open Go Go.Proofs Go.Sort Go.Maps Go.RowKit Go.WideShapes
theorem ports_law {n : Int} {l : List Ed} {a : Int} (h : hasB n l a = true) : sortK (pk a l []) = rpL n l a 8 := by
  obtain ⟨h1, h2, h3, h4⟩ := hasB_parts h
  have hp : ∀ p, (peerF n l a p).2.2 = (peerL l a p).2.2 := fun p => by unfold peerF; rw [if_pos h]
  have hform : ∀ k ∈ pk a l [], ∃ p, k = [p] := fun k hk => by
    rw [pk_mem] at hk
    rcases hk with hk | ⟨e, _, ⟨_, rfl⟩ | ⟨_, rfl⟩⟩
    · cases hk
    · exact ⟨_, rfl⟩
    · exact ⟨_, rfl⟩
  have hnd : ((pk a l []).map fun k => k.headD 0).Nodup := by
    have q : (pk a l []).Nodup := pk_nodup a l [] (by simp)
    unfold List.Nodup at q ⊢
    rw [List.pairwise_map]
    refine List.Pairwise.imp_of_mem ?_ q
    intro x y hx hy hxy he
    obtain ⟨p, rfl⟩ := hform x hx
    obtain ⟨p', rfl⟩ := hform y hy
    exact hxy (by simp at he; rw [he])
  have hsorted : (rpL n l a 8).Pairwise (fun x y => decide (x ≤ y) = true) := by
    unfold rpL
    exact List.Pairwise.filter _ (by decide)
  have hnd2 : (rpL n l a 8).Nodup := by
    unfold rpL
    exact List.Pairwise.filter _ (by decide)
  have hperm : ((pk a l []).map fun k => k.headD 0).Perm (rpL n l a 8) := by
    rw [List.perm_ext_iff_of_nodup hnd hnd2]
    intro p
    rw [rpL_mem, hp, peerL_ok, List.mem_map]
    constructor
    · rintro ⟨k, hk, rfl⟩
      rw [pk_mem] at hk
      rcases hk with hk | ⟨e, he, hk⟩
      · cases hk
      · have h5 := h4 e he
        simp only [endB, decide_eq_true_eq] at h5
        rcases hk with ⟨q, rfl⟩ | ⟨q, rfl⟩
        · exact ⟨⟨h5.1.2.2.1, h5.1.2.2.2⟩, e, he, .inl ⟨q, rfl⟩⟩
        · exact ⟨⟨h5.2.2.2.1, h5.2.2.2.2⟩, e, he, .inr ⟨q, rfl⟩⟩
    · rintro ⟨_, e, he, ⟨q, rfl⟩ | ⟨q, rfl⟩⟩
      · exact ⟨[e.pa], (pk_mem ..).2 (.inr ⟨e, he, .inl ⟨q, rfl⟩⟩), rfl⟩
      · exact ⟨[e.pb], (pk_mem ..).2 (.inr ⟨e, he, .inr ⟨q, rfl⟩⟩), rfl⟩
  have e := mergeSort_of_perm_i hperm
  unfold sortK
  rw [e, List.mergeSort_of_pairwise hsorted]
theorem ports_ok (n : Int) (l : List Ed) (cap : Option Nat) (hl : l.length ≤ maxLen) (a : Int) (h : hasB n l a = true) :
    Runs Tryd.prog 45 [gA n l cap, .val (.int .i64 a)] [gB l] (Det (.sl 1 1 0 (rpL n l a 8).length none) [gB l, iB true (rpL n l a 8)]) := by
  obtain ⟨h1, h2, h3, h4⟩ := hasB_parts h
  have e := ports_law h
  have hlen := pk_len a l []
  have r := ports_run n l cap hl a h (fun k hk => by
    rw [pk_mem] at hk
    rcases hk with hk | ⟨e, he, hk⟩
    · cases hk
    · have h5 := h4 e he
      simp only [endB, decide_eq_true_eq] at h5
      rcases hk with ⟨q, rfl⟩ | ⟨q, rfl⟩ <;> simp only [List.headD_cons] <;> omega) (by simp only [List.length_nil] at hlen; omega)
  have e2 : (pk a l []).length = (rpL n l a 8).length := by rw [← e, sortK_len]
  rw [e, e2] at r
  exact r
end Go.Vx.L42

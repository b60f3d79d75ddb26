/- Lemmas of a small executor for the model, and contracts of functions, used for the law that this claim proves. No condition. -/
import Derived.Test.YtodbfpjjahpahaaDoorEP1
import Derived.Test.YtodbfpjjahpahaaDoorEA10
import Derived.Test.YtodbfpjjahpahaaDoorGP18
import Derived.Test.YtodbfpjjahpahaaDoorE2
set_option linter.unusedSimpArgs false
set_option linter.unusedVariables false
/- What the election keeps, and what the plain law says of it. -/
set_option maxRecDepth 100000
namespace Go.Vx.L42
open Go Go.Proofs
theorem ckN2_all {ns : List Nd} : ∀ (k i : Nat), ckN2 ns k i = 0 → ∀ j, i ≤ j → j < i + k → ckN1 ns j = 0
  | 0, i, _, j, h1, h2 => by omega
  | k + 1, i, h, j, h1, h2 => by
    unfold ckN2 at h
    by_cases hc : ckN1 ns i = 0
    · rw [if_neg (by omega)] at h
      by_cases e : j = i
      · rw [e]; exact hc
      · exact ckN2_all k (i + 1) h j (by omega) (by omega)
    · rw [if_pos hc] at h; exact absurd h hc
theorem ckN1_parts {ns : List Nd} {i : Nat} (h : ckN1 ns i = 0) : (qlL (ns.getD i nd0)).all wrd = true ∧ dupB ns i i = false ∧ 127 < (ns.getD i nd0).cl := by
  unfold ckN1 at h
  split at h
  · cases h
  · split at h
    · cases h
    · split at h
      · cases h
      · rename_i h1 h2 h3
        exact ⟨by simpa using h1, by simpa using h2, by omega⟩
/-- A valid network. -/
structure NOK (ns : List Nd) (l : List Ed) : Prop where
  ck : ckE ns.length l ns = 0
  wf : ∀ x, wfD (owD (ns.getD x nd0))
theorem NOK.parts {ns : List Nd} {l : List Ed} (h : NOK ns l) : ckC ns.length l = 0 ∧ (1 ≤ ns.length ∧ ns.length ≤ 24) ∧ ∀ i, i < ns.length → (qlL (ns.getD i nd0)).all wrd = true ∧ dupB ns i i = false ∧ 127 < (ns.getD i nd0).cl := by
  obtain ⟨h1, _, h3⟩ := ckE_zero h.ck
  obtain ⟨hm, _⟩ := ckC_partsB h1
  exact ⟨h1, by omega, fun i hi => ckN1_parts (ckN2_all _ 0 h3 i (by omega) (by omega))⟩
abbrev rsN (ns : List Nd) (l : List Ed) : List (List Int) := prR ns.length l ns.length
abbrev pkN' (ns : List Nd) (l : List Ed) : List (List Int) := pkA ns.length l ns.length
theorem rs_mem {ns : List Nd} {l : List Ed} {x : Nat} {p : Int} (h : p ∈ (rsN ns l).getD x []) : x < ns.length ∧ (1 ≤ p ∧ p ≤ 8) ∧ (peerF ns.length l x p).2.2 = true := by
  by_cases hx : x < ns.length
  · rw [prR_get _ _ _ _ hx] at h
    exact ⟨hx, (rpL_mem ..).1 h⟩
  · rw [List.getD_eq_getElem?_getD, List.getElem?_eq_none (by rw [prR_len]; omega)] at h
    cases h
theorem mem_rs {ns : List Nd} {l : List Ed} {x : Nat} {p : Int} (hx : x < ns.length) (hp : 1 ≤ p ∧ p ≤ 8) (h : (peerF ns.length l x p).2.2 = true) : p ∈ (rsN ns l).getD x [] := by
  rw [prR_get _ _ _ _ hx]; exact (rpL_mem ..).2 ⟨hp, h⟩
theorem gp_peer {ns : List Nd} {l : List Ed} (hc : ckC ns.length l = 0) {x : Nat} (hx : x < ns.length) (p : Int) : gpF l [(x : Int), p] = ((peerF ns.length l x p).1, (peerF ns.length l x p).2.1) := by
  rw [peerF_of hc (by omega) (by omega)]; rfl
theorem pe_full {ns : List Nd} {l : List Ed} (hc : ckC ns.length l = 0) {x : Nat} {p : Int} (hx : x < ns.length) (h : (peerF ns.length l x p).2.2 = true) :
    ∃ (y : Nat) (q : Int), peerF ns.length l x p = ((y : Int), q, true) ∧ y < ns.length ∧ (1 ≤ q ∧ q ≤ 8) ∧ peerF ns.length l y q = ((x : Int), p, true) ∧ (y : Int) ≠ x ∧ (1 ≤ p ∧ p ≤ 8) := by
  obtain ⟨h1, h2⟩ := peer_back hc (a := (x : Int)) (by omega) (by omega) h
  have hb : hasB ns.length l (peerF ns.length l x p).1 = true := by
    cases hq : hasB ns.length l (peerF ns.length l x p).1 with
    | true => rfl
    | false =>
      unfold peerF at h1
      rw [show hasB ns.length l (if hasB (ns.length : Int) l (x : Int) = true then peerL l x p else (0, 0, false)).1 = false from hq] at h1
      simp at h1
  obtain ⟨_, _, h3, _⟩ := hasB_parts hb
  obtain ⟨y, hy⟩ := Int.eq_ofNat_of_zero_le h3.1
  have hr : 1 ≤ (peerF ns.length l x p).2.1 ∧ (peerF ns.length l x p).2.1 ≤ 8 := by
    have : (peerL l (peerF ns.length l x p).1 (peerF ns.length l x p).2.1).2.2 = true := by
      rw [← peerF_of hc h3.1 h3.2, h1]
    exact ok_range hc this
  have hp : 1 ≤ p ∧ p ≤ 8 := by
    rw [peerF_of hc (by omega) (by omega)] at h
    exact ok_range hc h
  refine ⟨y, (peerF ns.length l x p).2.1, ?_, by omega, hr, by rw [← hy]; exact h1, by rw [← hy]; exact h2, hp⟩
  rw [← hy, ← h]
theorem fok {ns : List Nd} {l : List Ed} (h : NOK ns l) : FOK ns (rsN ns l) (pkN' ns l) (gpF l) := by
  obtain ⟨hc, hn, hq⟩ := h.parts
  exact {
    n1 := hn.1
    n24 := hn.2
    rl := prR_len _ _ _
    row := fun x hx => by rw [prR_get _ _ _ _ hx]; exact rpL_len8 _ _ _
    prt := fun x p hp => by
      obtain ⟨h1, h2, h3⟩ := rs_mem hp
      obtain ⟨y, q, h4, h5, h6, _⟩ := pe_full hc h1 h3
      refine ⟨h2, (pkA_mem ..).2 ⟨x, h1, p, by rw [prR_get _ _ _ _ h1] at hp; exact hp, rfl⟩, ?_⟩
      rw [gp_peer hc h1, h4]
      exact ⟨⟨by simp, by simp; exact h5⟩, h6⟩
    pk := fun k hk => by
      obtain ⟨z, h1, p, h2, h3⟩ := (pkA_mem ..).1 hk
      exact ⟨z, p, h3, h1, by rw [prR_get _ _ _ _ h1]; exact h2⟩
    wf := h.wf
    cl := fun x hx => (hq x hx).2.2 }
theorem pok {ns : List Nd} {l : List Ed} (h : NOK ns l) : POK ns.length (rsN ns l) (gpF l) := by
  obtain ⟨hc, hn, hq⟩ := h.parts
  refine ⟨fun x hx p hp => ?_, fun x => ?_⟩
  · obtain ⟨h1, h2, h3⟩ := rs_mem hp
    obtain ⟨y, q, h4, h5, h6, h7, _⟩ := pe_full hc h1 h3
    refine ⟨y, q, by rw [gp_peer hc h1, h4], h5, mem_rs h5 h6 (by rw [h7]), by rw [gp_peer hc h5, h7]⟩
  · by_cases hx : x < ns.length
    · rw [prR_get _ _ _ _ hx]; exact rpL_nodup _ _ _
    · rw [List.getD_eq_getElem?_getD, List.getElem?_eq_none (by rw [prR_len]; omega)]; simp
theorem netOK {ns : List Nd} {l : List Ed} (h : NOK ns l) : (netP ns l).OK := by
  obtain ⟨hc, hn, hq⟩ := h.parts
  exact {
    pe_ok := fun x p y q he => by
      have hx : x < ns.length := by
        by_cases hx : x < ns.length
        · exact hx
        · exfalso
          have : hasB ns.length l x = false := decide_eq_false (fun e => hx (by omega))
          simp only [netP] at he
          unfold peerF at he
          rw [this] at he
          simp at he
      simp only [netP] at he
      by_cases hk : (peerF ns.length l x p).2.2 = true
      · rw [if_pos hk] at he
        obtain ⟨y', q', h4, h5, h6, h7, h8, h9⟩ := pe_full hc hx hk
        rw [h4] at he
        simp only [Option.some.injEq, Prod.mk.injEq, Int.toNat_natCast] at he
        obtain ⟨e1, e2⟩ := he
        subst e1
        have e3 : q' = (q : Int) := by omega
        rw [e3] at h7 h6
        refine ⟨⟨hx, h5⟩, ⟨by omega, by omega⟩, ⟨by omega, by omega⟩, fun e => h8 (by omega), ?_⟩
        show (if (peerF ns.length l y' q).2.2 = true then some ((peerF ns.length l y' q).1.toNat, (peerF ns.length l y' q).2.1.toNat) else none) = some (x, p)
        rw [h7, if_pos rfl]
        simp
      · rw [if_neg hk] at he; cases he
    gm := fun x => rfl
    st := fun x => rfl
    rp := fun x => rfl
    inj := fun x y hx hy he => by
      have h1 := dupB_not _ (hq x hx).2.1
      have h2 := dupB_not _ (hq y hy).2.1
      rcases Nat.lt_trichotomy x y with h | h | h
      · exact absurd he (h2 x h)
      · exact h
      · exact absurd he.symm (h1 y h) }
end Go.Vx.L42

/- Lemmas of a small executor for the model, and contracts of functions, used for the law that this claim proves. No condition. -/
import Derived.Test.YtodbfpjjahpahaaDoorEP2
set_option linter.unusedSimpArgs false
set_option linter.unusedVariables false
/- The rounds as they are kept are the plain rounds. -/
set_option maxRecDepth 100000
namespace Go.Vx.L42
open Go Go.Proofs
theorem memOf_at (s : MS) (x p : Nat) : memOf s x p = (memAt s [(x : Int), (p : Int)]).map fun m => (m.age, m.set) := by
  unfold memOf memAt
  split <;> rfl
/-- The same of a state, memo by memo. -/
def SOK' (ns : List Nd) (pk : List (List Int)) (s : MS) : Prop := ∀ k m, memAt s k = some m → k = [m.node, m.port] ∧ vlM ns pk m = true ∧ wfD m.set
theorem SOK.to' {ns : List Nd} {pk : List (List Int)} {s : MS} (h : SOK ns pk s) : SOK' ns pk s := fun k m hm => by
  unfold memAt at hm
  split at hm
  · rename_i hc
    have hk := List.contains_iff_mem.1 hc
    obtain rfl := Option.some.inj hm
    exact ⟨h.key k hk, h.vl k hk, h.wf k hk⟩
  · cases hm
theorem SOK'.of {ns : List Nd} {pk : List (List Int)} {s : MS} (h : SOK' ns pk s) : SOK ns pk s := by
  have key : ∀ k ∈ s.ks, memAt s k = some (s.g k) := fun k hk => by
    unfold memAt; rw [if_pos (List.contains_iff_mem.2 hk)]
  exact ⟨fun k hk => (h k _ (key k hk)).1, fun k hk => (h k _ (key k hk)).2.1, fun k hk => (h k _ (key k hk)).2.2⟩
variable {ns : List Nd} {l : List Ed}
theorem sd1_snd (s : MS) {u y : Nat} {v q : Nat} (hv : 1 ≤ v) (hg : gpF l [(u : Int), (v : Int)] = ((y : Int), (q : Int))) :
    sd1 ns (gpF l) s u v = (netP ns l).snd (memOf s) u v y q := by
  unfold sd1 NetP.snd NetP.cod NetP.fol
  rw [hg, hrX_hrd]
  have e1 : ((v : Int) - 1).toNat = v - 1 := by omega
  rw [e1]
  show (if ann (codD (owD (ns.getD u nd0)) (hrd (memOf s) u) (v - 1)) = true then _ else none) = if ann (codD (owD (ns.getD u nd0)) (hrd (memOf s) u) (v - 1)) = true then _ else none
  by_cases hA : ann (codD (owD (ns.getD u nd0)) (hrd (memOf s) u) (v - 1)) = true
  · rw [if_pos hA, if_pos hA]
    simp only [Int.toNat_natCast]
    unfold sntF
    show _ = if folD (owD (ns.getD u nd0)) (hrd (memOf s) u) = owD (ns.getD u nd0) then _ else _
    by_cases h1 : folD (owD (ns.getD u nd0)) (hrd (memOf s) u) = owD (ns.getD u nd0)
    · rw [if_pos h1, if_pos h1]; rfl
    · rw [if_neg h1, if_neg h1]
      show _ = if (folD (owD (ns.getD u nd0)) (hrd (memOf s) u)).st + 1 < 32 then _ else none
      by_cases h2 : (folD (owD (ns.getD u nd0)) (hrd (memOf s) u)).st + 1 < 32
      · rw [if_pos h2, if_pos h2]; rfl
      · rw [if_neg h2, if_neg h2]; rfl
  · rw [if_neg hA, if_neg hA]
/-- What is sent can be a memo. -/
theorem sd1_ok (h : NOK ns l) {s : MS} (hS : SOK ns (pkN' ns l) s) {u y : Nat} {v q : Int} (hg : gpF l [(u : Int), v] = ((y : Int), q)) (hu : u < ns.length) (hv : 1 ≤ v ∧ v ≤ 8) (hq : 1 ≤ q ∧ q ≤ 8) (hy : y < ns.length) (hk : [(y : Int), q] ∈ pkN' ns l) {d : DS} (hd : sd1 ns (gpF l) s u v = some d) :
    vlM ns (pkN' ns l) ⟨y, q, 0, d⟩ = true ∧ wfD d := by
  obtain ⟨hc, hn, hQ⟩ := h.parts
  have hu2 := hQ u hu
  have hwu := h.wf u
  have hwy := h.wf y
  have hid := hwy.gm
  unfold sd1 at hd
  rw [hg] at hd
  split at hd
  · split at hd
    · rename_i hA h2
      have hd := Option.some.inj hd
      simp only [Int.toNat_natCast] at hd h2
      have hall : ∀ (f : DS) (st : Int), [f.p1, f.cl, f.ac, f.va, f.p2].all wrd = true → 0 ≤ st ∧ st < 32 → wfD f → d = { f with st := st, se := (ns.getD u nd0).id, sp := v, re := (ns.getD y nd0).id, rp := q } → vlM ns (pkN' ns l) ⟨y, q, 0, d⟩ = true ∧ wfD d := by
        intro f st hwd hst hwf e
        subst e
        refine ⟨?_, ⟨hwf.p1, hwf.cl, hwf.ac, hwf.va, hwf.p2, hwf.gm, ?_, hwu.gm, ?_, hwy.gm, ?_⟩⟩
        · unfold vlM
          refine decide_eq_true ⟨List.contains_iff_mem.2 hk, ⟨Int.le_refl 0, by show (0 : Int) < 3; omega⟩, hst, ?_, ?_, rfl⟩
          · have a1 : wrd v = true := decide_eq_true (by omega)
            have a2 : wrd q = true := decide_eq_true (by omega)
            simp only [List.all_cons, List.all_nil, Bool.and_true, Bool.and_eq_true] at hwd ⊢
            exact ⟨hwd.1, hwd.2.1, hwd.2.2.1, hwd.2.2.2.1, hwd.2.2.2.2, a1, a2⟩
          · show (ns.getD y nd0).id = (ns.getD ((y : Int).toNat) nd0).id
            rw [Int.toNat_natCast]
        · show inI st; unfold inI; omega
        · show inI v; unfold inI; omega
        · show inI q; unfold inI; omega
      unfold sntF at hd h2
      by_cases h3 : folD (owD (ns.getD u nd0)) (hrX s u 8) = owD (ns.getD u nd0)
      · rw [if_pos h3] at hd
        exact hall (owD (ns.getD u nd0)) 0 hu2.1 (by decide) hwu hd.symm
      · rw [if_neg h3] at hd h2
        by_cases h4 : (folD (owD (ns.getD u nd0)) (hrX s u 8)).st + 1 < 32
        · rw [if_pos h4] at hd
          have hfs := fol_st hS (owD (ns.getD u nd0)) rfl u
          have hf : ∃ k ∈ s.ks, folD (owD (ns.getD u nd0)) (hrX s u 8) = (s.g k).set := by
            have h5 : ¬ selfD (owD (ns.getD u nd0)) (hrX s u 8) = true := fun e => h3 (by unfold folD; rw [if_pos e])
            have h6 : folD (owD (ns.getD u nd0)) (hrX s u 8) = dsAt (hrX s u 8) (bstL (hrX s u 8)).toNat := by unfold folD; rw [if_neg h5]
            rcases bst_spec (hrX s u 8) (hrX s u 8).length with ⟨b1, _⟩ | ⟨_, b2, _⟩
            · exact absurd (by unfold selfD bstL; rw [b1]; rfl) h5
            · rw [h6]
              have b2 : hasAt (hrX s u 8) (bstL (hrX s u 8)).toNat = true := b2
              unfold hasAt at b2
              unfold dsAt
              rw [hrX_get] at b2 ⊢
              split
              · rename_i h7
                exact ⟨_, List.contains_iff_mem.1 h7.2.2, rfl⟩
              · rename_i h7
                rw [if_neg h7] at b2; cases b2
          obtain ⟨k, hk1, hk2⟩ := hf
          have hvl := vlM_parts (hS.vl k hk1)
          refine hall (folD (owD (ns.getD u nd0)) (hrX s u 8)) _ ?_ (by omega) (by rw [hk2]; exact hS.wf k hk1) hd.symm
          rw [hk2]
          have := hvl.2.2.2.1
          simp only [List.all_cons, List.all_nil, Bool.and_true, Bool.and_eq_true] at this ⊢
          exact ⟨this.1, this.2.1, this.2.2.1, this.2.2.2.1, this.2.2.2.2.1⟩
        · rw [if_neg h4] at h2; cases h2
    · cases hd
  · cases hd
theorem vlM_older {m : Mm} (h : vlM ns (pkN' ns l) m = true) (ha : m.age + 1 < 3) : vlM ns (pkN' ns l) (older m) = true := by
  obtain ⟨h1, h2, h3⟩ := vlM_parts h
  unfold vlM
  exact decide_eq_true ⟨List.contains_iff_mem.2 h1, ⟨by show 0 ≤ m.age + 1; omega, ha⟩, h3⟩
/-- A key of a port, and where its edge leads. -/
theorem port_key (h : NOK ns l) {k : List Int} : (∃ (y : Nat) (q : Int) (u : Nat) (v : Int), k = [(y : Int), q] ∧ (y < ns.length ∧ (1 ≤ q ∧ q ≤ 8) ∧ q ∈ (rsN ns l).getD y [] ∧ (peerF ns.length l y q) = ((u : Int), v, true)) ∧ (u < ns.length ∧ (1 ≤ v ∧ v ≤ 8) ∧ v ∈ (rsN ns l).getD u []) ∧ gpF l [(u : Int), v] = ((y : Int), q) ∧ k ∈ pkN' ns l) ∨
    (k ∉ pkN' ns l ∧ ∀ (y : Nat) (q : Int), y < ns.length → q ∈ (rsN ns l).getD y [] → k ≠ [(y : Int), q]) := by
  obtain ⟨hc, hn, hQ⟩ := h.parts
  have hF := fok h
  by_cases hk : k ∈ pkN' ns l
  · left
    obtain ⟨y, q, rfl, hy, hq⟩ := hF.pk k hk
    obtain ⟨h1, h2, h3⟩ := rs_mem hq
    obtain ⟨u, v, h4, h5, h6, h7, _⟩ := pe_full hc h1 h3
    exact ⟨y, q, u, v, rfl, ⟨hy, h2, hq, h4⟩, ⟨h5, h6, mem_rs h5 h6 (by rw [h7])⟩, by rw [gp_peer hc h5, h7], hk⟩
  · exact .inr ⟨hk, fun y q hy hq e => hk (e ▸ (hF.prt y q hq).2.1)⟩
theorem memAt_none_of (h : NOK ns l) {s : MS} (hS : SOK ns (pkN' ns l) s) {k : List Int} (hk : k ∉ pkN' ns l) : memAt s k = none := by
  cases hm : memAt s k with
  | none => rfl
  | some m =>
    obtain ⟨h1, h2, _⟩ := hS.to' k m hm
    exact absurd (h1 ▸ (vlM_parts h2).1) hk
/-- The state after a round. -/
theorem round_at (h : NOK ns l) {s : MS} (hS : SOK ns (pkN' ns l) s) {W : List (List Int)} (hW : ∀ k, k ∈ W ↔ k ∈ s.ks) : SOK ns (pkN' ns l) (sdA ns (rsN ns l) (gpF l) s (agS s W) ns.length) ∧ memOf (sdA ns (rsN ns l) (gpF l) s (agS s W) ns.length) = (netP ns l).rnd (memOf s) := by
  obtain ⟨hc, hn, hQ⟩ := h.parts
  have hP := pok h
  have hag : ∀ k m, memAt (agS s W) k = some m → k = [m.node, m.port] ∧ vlM ns (pkN' ns l) m = true ∧ wfD m.set := fun k m hm => by
    rw [memAt_ag s W hW] at hm
    cases hq : memAt s k with
    | none => rw [hq] at hm; cases hm
    | some m0 =>
      rw [hq] at hm
      dsimp only at hm
      obtain ⟨a1, a2, a3⟩ := hS.to' k m0 hq
      split at hm
      · rename_i ha
        obtain rfl := Option.some.inj hm
        exact ⟨a1, vlM_older a2 ha, a3⟩
      · cases hm
  refine ⟨SOK'.of fun k m hm => ?_, funext fun y => funext fun q => ?_⟩
  · rcases port_key h (k := k) with ⟨y, q, u, v, rfl, ⟨hy, hq, hqr, hpe⟩, ⟨hu, hv, hvr⟩, hg, hkp⟩ | ⟨hk, hno⟩
    · rw [sdA_at hP s (agS s W) hg hu hvr ns.length (Nat.le_refl _), if_pos hu] at hm
      unfold cameK at hm
      cases hd : sd1 ns (gpF l) s u v with
      | some d =>
        rw [hd] at hm
        obtain rfl := Option.some.inj hm
        obtain ⟨b1, b2⟩ := sd1_ok h hS hg hu hv hq hy hkp hd
        exact ⟨rfl, b1, b2⟩
      | none => rw [hd] at hm; exact hag _ _ hm
    · rw [sdA_other hP s (agS s W) hno ns.length (Nat.le_refl _)] at hm
      exact hag _ _ hm
  · rw [memOf_at]
    show _ = match (netP ns l).pe y q with | none => none | some (u, v) => _
    rcases port_key h (k := [(y : Int), (q : Int)]) with ⟨y', q', u, v, e, ⟨hy, hq, hqr, hpe⟩, ⟨hu, hv, hvr⟩, hg, hkp⟩ | ⟨hk, hno⟩
    · simp only [List.cons.injEq, and_true] at e
      obtain ⟨e1, e2⟩ := e
      have e1 : y' = y := by omega
      subst e1
      subst e2
      have hpy : (netP ns l).pe y' q = some (u, v.toNat) := by
        show (if (peerF ns.length l y' q).2.2 = true then some ((peerF ns.length l y' q).1.toNat, (peerF ns.length l y' q).2.1.toNat) else none) = _
        rw [hpe, if_pos rfl]; simp
      rw [hpy, sdA_at hP s (agS s W) hg hu hvr ns.length (Nat.le_refl _), if_pos hu]
      obtain ⟨v', rfl⟩ : ∃ v' : Nat, v = v' := ⟨v.toNat, by omega⟩
      have hsd := sd1_snd (ns := ns) s (l := l) (u := u) (y := y') (v := v') (q := q) (by omega) hg
      unfold cameK
      rw [hsd]
      simp only [Int.toNat_natCast]
      cases hsn : (netP ns l).snd (memOf s) u v' y' q with
      | some d => rfl
      | none =>
        simp only
        rw [memAt_ag s W hW, memOf_at]
        cases hm : memAt s [(y' : Int), (q : Int)] with
        | none => rfl
        | some m =>
          simp only [Option.map_some]
          split <;> rfl
    · rw [sdA_other hP s (agS s W) hno ns.length (Nat.le_refl _), memAt_ag s W hW, memAt_none_of h hS hk]
      have hpy : (netP ns l).pe y q = none := by
        cases hq : (netP ns l).pe y q with
        | none => rfl
        | some uv =>
          exfalso
          obtain ⟨⟨a1, _⟩, a2, _⟩ := (netOK h).pe_ok y q uv.1 uv.2 hq
          have : (peerF ns.length l y q).2.2 = true := by
            simp only [netP] at hq
            split at hq
            · assumption
            · cases hq
          exact hno y q a1 (mem_rs a1 ⟨by omega, by omega⟩ this) rfl
      rw [hpy]; rfl
end Go.Vx.L42

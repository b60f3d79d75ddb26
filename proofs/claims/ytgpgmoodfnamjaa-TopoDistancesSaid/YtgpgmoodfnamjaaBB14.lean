/- Lemmas of a small executor for the model, and contracts of functions, used for the law that this claim proves. No condition. -/
import Derived.Test.YtgpgmoodfnamjaaBB7
import Derived.Test.YtgpgmoodfnamjaaBB8
set_option linter.unusedSimpArgs false
set_option linter.unusedVariables false
set_option maxRecDepth 100000
namespace Go.Vx.L18
open Go Go.Proofs
def Conn (D : Nat → List Int) (v i : Nat) : Prop := 0 ≤ (D v).getD i 0
/-- What a visit does. -/
structure DfR (n : Nat) (l : List Ed) (D : Nat → List Int) (f : Int) (v : Nat) (C C' : List Int) : Prop where
  len : C'.length = n
  keep : ∀ i < n, 0 ≤ C.getD i 0 → C'.getD i 0 = C.getD i 0
  new : ∀ i < n, C.getD i 0 < 0 → C'.getD i 0 = C.getD i 0 ∨ (C'.getD i 0 = f ∧ Conn D v i)
  clos : ∀ i < n, C.getD i 0 < 0 → 0 ≤ C'.getD i 0 → ∀ y < n, Adj l i ((y : Nat) : Int) → 0 ≤ C'.getD y 0
theorem DfR.refl {n : Nat} {l : List Ed} {D : Nat → List Int} {f : Int} {v : Nat} {C : List Int} (h : C.length = n) : DfR n l D f v C C :=
  ⟨h, fun _ _ _ => rfl, fun _ _ _ => .inl rfl, fun i _ h1 h2 => absurd h1 (by omega)⟩
theorem DfR.mono {n : Nat} {l : List Ed} {D : Nat → List Int} {f : Int} {v : Nat} {C C' : List Int} (h : DfR n l D f v C C') {i : Nat} (hi : i < n) (h0 : 0 ≤ C.getD i 0) : 0 ≤ C'.getD i 0 := by
  rw [h.keep i hi h0]; exact h0
theorem DfR.trans {n : Nat} {l : List Ed} {D : Nat → List Int} {f : Int} (hf : 0 ≤ f) {v : Nat} {C C' C'' : List Int} (h : DfR n l D f v C C') (g : DfR n l D f v C' C'') : DfR n l D f v C C'' := by
  refine ⟨g.len, fun i hi h0 => ?_, fun i hi h0 => ?_, fun i hi h0 h1 y hy hA => ?_⟩
  · rw [g.keep i hi (h.mono hi h0), h.keep i hi h0]
  · rcases h.new i hi h0 with e | ⟨e, hc⟩
    · rw [← e]; exact g.new i hi (by omega)
    · exact .inr ⟨by rw [g.keep i hi (by omega), e], hc⟩
  · by_cases h2 : 0 ≤ C'.getD i 0
    · exact g.mono hy (h.clos i hi h0 h2 y hy hA)
    · exact g.clos i hi (by omega) h1 y hy hA
theorem conn_step {n : Nat} {l : List Ed} {D : Nat → List Int} (hD : ∀ a < n, IsD n l a (D a)) {v x i : Nat} (hv : v < n) (hx : x < n) (hi : i < n) (hA : Adj l v ((x : Nat) : Int)) (h : Conn D x i) : Conn D v i := by
  obtain ⟨k, hk⟩ := Int.eq_ofNat_of_zero_le h
  exact ((hD v hv).tri (hD x hx) hv hx hA k i hi hk).1
theorem DfR.lift {n : Nat} {l : List Ed} {D : Nat → List Int} (hD : ∀ a < n, IsD n l a (D a)) {f : Int} {v x : Nat} (hv : v < n) (hx : x < n) (hA : Adj l v ((x : Nat) : Int)) {C C' : List Int} (h : DfR n l D f x C C') : DfR n l D f v C C' :=
  ⟨h.len, h.keep, fun i hi h0 => (h.new i hi h0).imp id fun ⟨h1, h2⟩ => ⟨h1, conn_step hD hv hx hi hA h2⟩, h.clos⟩
theorem dfs_foldR {n : Nat} {l : List Ed} {D : Nat → List Int} (hD : ∀ a < n, IsD n l a (D a)) {f : Int} (hf : 0 ≤ f) {v : Nat} (hv : v < n) {m : Nat} {g : List Int → Int → List Int}
    (hg : ∀ C (x : Nat), C.length = n → x < n → ngs C < m → DfR n l D f x C (g C x) ∧ 0 ≤ (g C x).getD x 0 ∧ ngs (g C x) ≤ ngs C) : ∀ (xs : List Int) (C : List Int), C.length = n → ngs C < m → (∀ x ∈ xs, (0 ≤ x ∧ x < (n : Int)) ∧ Adj l v x) →
    DfR n l D f v C (xs.foldl g C) ∧ ∀ x ∈ xs, 0 ≤ (xs.foldl g C).getD x.toNat 0
  | [], C, h, _, _ => ⟨DfR.refl h, fun x hx => by cases hx⟩
  | x :: xs, C, h, hm, hx => by
    obtain ⟨⟨x0, x1⟩, hA⟩ := hx x (by simp)
    obtain ⟨x, rfl⟩ := Int.eq_ofNat_of_zero_le x0
    obtain ⟨g1, g2, g3⟩ := hg C x h (by omega) hm
    obtain ⟨p1, p2⟩ := dfs_foldR hD hf hv hg xs (g C x) g1.len (by omega) fun y hy => hx y (by simp [hy])
    refine ⟨(g1.lift hD hv (by omega) hA).trans hf p1, fun y hy => ?_⟩
    rcases List.mem_cons.1 hy with rfl | hy
    · rw [Int.toNat_natCast]; exact p1.mono (by omega) g2
    · exact p2 y hy
theorem dfs_R {n : Nat} {l : List Ed} (hl : ∀ e ∈ l, edOK n e) {rs : List (List Int)} (hr : rowsAdj n l rs) (hin : rowsIn n rs) {D : Nat → List Int} (hD : ∀ a < n, IsD n l a (D a)) {f : Int} (hf : 0 ≤ f) : ∀ (m : Nat) (C : List Int) (v : Nat), C.length = n → v < n → ngs C < m →
    DfR n l D f v C (dfs rs m v f C) ∧ 0 ≤ (dfs rs m v f C).getD v 0 ∧ ngs (dfs rs m v f C) ≤ ngs C
  | 0, C, v, _, _, hm => absurd hm (by omega)
  | m + 1, C, v, h, hv, hm => by
    have hlen := dfs_len hin hf (m + 1) v C h (by omega) (by omega)
    have hE : dfs rs (m + 1) (v : Int) f C = if 0 ≤ C.getD v 0 then C else (rs.getD v []).foldl (fun C x => dfs rs m x f C) (C.set v f) := rfl
    rw [hE] at hlen ⊢
    by_cases h0 : 0 ≤ C.getD v 0
    · rw [if_pos h0]; exact ⟨DfR.refl h, h0, Nat.le_refl _⟩
    · rw [if_neg h0] at hlen ⊢
      have hs := ngs_set C v f (by omega) (by omega) hf
      obtain ⟨p1, p2⟩ := dfs_foldR (m := m) hD hf hv (g := fun C x => dfs rs m x f C) (fun C x hC hx hm => dfs_R hl hr hin hD hf m C x hC hx hm) (rs.getD v []) (C.set v f) (by simp [h]) (by omega) fun x hx => ⟨hin v x hx, (hr v hv x).1 hx⟩
      have hg : ∀ i, (C.set v f).getD i 0 = if i = v then f else C.getD i 0 := fun i => by
        rw [getD_set]
        by_cases e : i = v
        · rw [if_pos ⟨e, by omega⟩, if_pos e]
        · rw [if_neg (fun hh => e hh.1), if_neg e]
      refine ⟨⟨p1.len, fun i hi h1 => ?_, fun i hi h1 => ?_, fun i hi h1 h2 y hy hA => ?_⟩, p1.mono hv (by rw [hg, if_pos rfl]; exact hf), hlen.2⟩
      · have : i ≠ v := fun e => h0 (e ▸ h1)
        rw [p1.keep i hi (by rw [hg, if_neg this]; exact h1), hg, if_neg this]
      · by_cases e : i = v
        · subst e
          right
          refine ⟨by rw [p1.keep i hi (by rw [hg, if_pos rfl]; exact hf), hg, if_pos rfl], ?_⟩
          show 0 ≤ (D i).getD i 0
          rw [(hD i hi).zero]; exact Int.le_refl _
        · have := p1.new i hi (by rw [hg, if_neg e]; exact h1)
          rw [hg, if_neg e] at this
          exact this
      · by_cases e : i = v
        · subst e
          have := p2 (y : Int) ((hr i hi _).2 hA)
          simpa using this
        · exact p1.clos i hi (by rw [hg, if_neg e]; exact h1) h2 y hy hA
/-- What holds of the components' numbers behind the visits from the first nodes. -/
structure CsI (n : Nat) (l : List Ed) (D : Nat → List Int) (k : Nat) (C : List Int) : Prop where
  len : C.length = n
  val : ∀ i < n, C.getD i 0 = -1 ∨ ∃ c : Nat, C.getD i 0 = c ∧ c < k ∧ Conn D c i ∧ ∀ j < c, ¬ Conn D j i
  fin : ∀ j < k, j < n → 0 ≤ C.getD j 0
  clos : ∀ i < n, 0 ≤ C.getD i 0 → ∀ y < n, Adj l i ((y : Nat) : Int) → 0 ≤ C.getD y 0
theorem CsI.conn {n : Nat} {l : List Ed} {D : Nat → List Int} (hD : ∀ a < n, IsD n l a (D a)) {k : Nat} {C : List Int} (h : CsI n l D k C) {j : Nat} (hj : j < n) (h0 : 0 ≤ C.getD j 0) : ∀ (d i : Nat), i < n → (D j).getD i 0 = d → 0 ≤ C.getD i 0
  | d, i, hi, hd => by
    rcases (hD j hj).back i hi (by omega) with rfl | ⟨y, hy, hA, h1, h2⟩
    · exact h0
    · match d with
      | 0 => omega
      | d + 1 => exact h.clos y hy (CsI.conn hD h hj h0 d y hy (by omega)) i hi hA.symm
theorem csF_is {n : Nat} {l : List Ed} (hl : ∀ e ∈ l, edOK n e) {rs : List (List Int)} (hr : rowsAdj n l rs) (hin : rowsIn n rs) {D : Nat → List Int} (hD : ∀ a < n, IsD n l a (D a)) : ∀ k, k ≤ n → CsI n l D k (csF n rs k)
  | 0, _ => ⟨by simp [csF], fun i hi => .inl (rep_get n i hi), fun j hj => absurd hj (by omega), fun i hi h => absurd h (by unfold csF; rw [rep_get n i hi]; decide)⟩
  | k + 1, hk => by
    have ih := csF_is hl hr hin hD k (by omega)
    have hc := csF_len hin k (by omega)
    have hR := dfs_R hl hr hin hD (f := k) (by omega) (n + 1) (csF n rs k) k hc.1 (by omega) (by omega)
    have e : csF n rs (k + 1) = dfs rs (n + 1) k k (csF n rs k) := rfl
    rw [← e] at hR
    generalize csF n rs (k + 1) = C' at *
    generalize csF n rs k = C at *
    obtain ⟨h1, h2, _⟩ := hR
    refine ⟨h1.len, fun i hi => ?_, fun j hj hjn => ?_, fun i hi h0 y hy hA => ?_⟩
    · rcases ih.val i hi with hv | ⟨c, hv, hck, hc1, hc2⟩
      · rcases h1.new i hi (by omega) with e | ⟨e, hcn⟩
        · exact .inl (by omega)
        · refine .inr ⟨k, e, by omega, hcn, fun j hj hcj => ?_⟩
          obtain ⟨d, hd⟩ := Int.eq_ofNat_of_zero_le hcj
          have := ih.conn hD (by omega) (ih.fin j hj (by omega)) d i hi hd
          omega
      · exact .inr ⟨c, by rw [h1.keep i hi (by omega), hv], by omega, hc1, hc2⟩
    · by_cases e : j = k
      · subst e; exact h2
      · exact h1.mono hjn (ih.fin j (by omega) hjn)
    · by_cases h3 : 0 ≤ C.getD i 0
      · exact h1.mono hy (ih.clos i hi h3 y hy hA)
      · exact h1.clos i hi (by omega) h0 y hy hA
theorem lwS_spec (D : List Int) (n : Nat) : ∀ (j k : Nat), j ≤ n → n - j ≤ k → k < n → 0 ≤ D.getD k 0 → (∀ q, n - j ≤ q → q < k → D.getD q 0 < 0) → lwS D n j = k
  | 0, k, hj, h1, h2, _, _ => by omega
  | j + 1, k, hj, h1, h2, h3, h4 => by
    rw [show lwS D n (j + 1) = if 0 ≤ D.getD (n - 1 - j) 0 then ((n - 1 - j : Nat) : Int) else lwS D n j from rfl]
    by_cases e : k = n - 1 - j
    · subst e; rw [if_pos h3]
    · have := h4 (n - 1 - j) (by omega) (by omega)
      rw [if_neg (by omega)]
      exact lwS_spec D n j k (by omega) (by omega) h2 h3 fun q hq1 hq2 => h4 q (by omega) hq2
theorem ds_all {n : Nat} {l : List Ed} (hl : ∀ e ∈ l, edOK n e) (hn : n ≤ 24) : ∀ a < n, IsD n l a (dsF n l a) := fun _ ha => (dsF_is hl hn ha).1
/-- What Comp answers: the least node that is not -1 away. -/
theorem cpF_spec {n : Nat} {l : List Ed} (hl : ∀ e ∈ l, edOK n e) (hn : n ≤ 24) {i : Nat} (hi : i < n) : ∃ c : Nat, (cpF n l).getD i 0 = c ∧ c < n ∧ 0 ≤ (dsF n l i).getD c 0 ∧ ∀ j < c, (dsF n l i).getD j 0 < 0 := by
  have hD := ds_all hl hn
  have h := csF_is hl (nrF_adj hl) (nrF_in hl) (D := dsF n l) hD n (Nat.le_refl _)
  have h0 := h.fin i hi hi
  rcases h.val i hi with e | ⟨c, e, hc, h1, h2⟩
  · omega
  · refine ⟨c, e, hc, ?_, fun j hj => ?_⟩
    · rw [isD_symm hD i c hi hc]; exact h1
    · have h3 := h2 j hj
      rw [isD_symm hD i j hi (by omega)]
      unfold Conn at h3; omega
theorem cpF_len {n : Nat} {l : List Ed} (hl : ∀ e ∈ l, edOK n e) : (cpF n l).length = n := (csF_len (nrF_in hl) n (Nat.le_refl _)).1
theorem rcF_eq {n : Nat} {l : List Ed} (hl : ∀ e ∈ l, edOK n e) (hn : n ≤ 24) : rcF n l = cpF n l := by
  refine getD_ext (n := n) (by simp [rcF]) (cpF_len hl) fun i hi => ?_
  obtain ⟨c, h1, h2, h3, h4⟩ := cpF_spec hl hn hi
  rw [h1]
  unfold rcF
  rw [List.getD_eq_getElem?_getD, List.getElem?_map, List.getElem?_range hi]
  exact lwS_spec _ n n c (Nat.le_refl _) (by omega) h2 h3 fun q _ hq => h4 q hq
theorem rcA_eq (n : Int) (l : List Ed) : rcA n l = cpA n l := by
  unfold rcA cpA
  split
  · rename_i hc
    obtain ⟨m, rfl, hm, _, hed⟩ := ckC_parts hc
    exact rcF_eq hed hm.2
  · rfl
end Go.Vx.L18

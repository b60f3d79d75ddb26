/- Lemmas of a small executor for the model, and contracts of functions, used for the law that this claim proves. No condition. -/
import Derived.Test.YtgpgmoodfnamjaaBB20
import Derived.Test.YtgpgmoodfnamjaaBB22
set_option linter.unusedSimpArgs false
set_option linter.unusedVariables false
set_option maxRecDepth 100000
namespace Go.Vx.L18
open Go Go.Proofs
def boC (b : Bool) : List AV := [.sb b]
instance : FlatC boC := ⟨fun x v h => by simp [boC] at h; subst h; trivial⟩
abbrev boF (l : List Bool) : Nat → Nat → AV := rowF boC false l
abbrev wB (rw : Bool) (t : TypeId) (ws : List Bool) : Blk := .arr rw t 1 ws.length (boF ws)
/-- One end of an edge in the list of the nodes with a nearer neighbor. -/
def nb1 (D : List Int) (N : List Bool) (i j : Nat) : List Bool := N.set i (N.getD i false || decide (D.getD j 0 = D.getD i 0 - 1))
def nbS (D : List Int) (N : List Bool) (e : Ed) : List Bool := nb1 D (nb1 D N e.a.toNat e.b.toNat) e.b.toNat e.a.toNat
def nbF (D : List Int) (N : List Bool) (l : List Ed) : List Bool := l.foldl (nbS D) N
theorem nb1_spec {n : Nat} {D : List Int} {N : List Bool} (hN : N.length = n) {i j : Nat} (hi : i < n) : (nb1 D N i j).length = n ∧ (∀ k, N.getD k false = true → (nb1 D N i j).getD k false = true) ∧ (D.getD j 0 = D.getD i 0 - 1 → (nb1 D N i j).getD i false = true) := by
  unfold nb1
  refine ⟨by simp [hN], fun k hk => ?_, fun h => ?_⟩
  · rw [getD_set]
    split
    · rename_i e; rw [← e.1, hk]; rfl
    · exact hk
  · rw [getD_set, if_pos ⟨rfl, by omega⟩, decide_eq_true h, Bool.or_true]
theorem nbS_spec {n : Nat} {D : List Int} {N : List Bool} (hN : N.length = n) {e : Ed} (he : edOK n e) : (nbS D N e).length = n ∧ (∀ k, N.getD k false = true → (nbS D N e).getD k false = true) ∧ (D.getD e.b.toNat 0 = D.getD e.a.toNat 0 - 1 → (nbS D N e).getD e.a.toNat false = true) ∧ (D.getD e.a.toNat 0 = D.getD e.b.toNat 0 - 1 → (nbS D N e).getD e.b.toNat false = true) := by
  obtain ⟨h1, h2, _⟩ := he
  obtain ⟨p1, p2, p3⟩ := nb1_spec (D := D) hN (i := e.a.toNat) (j := e.b.toNat) (by omega)
  obtain ⟨q1, q2, q3⟩ := nb1_spec (D := D) p1 (i := e.b.toNat) (j := e.a.toNat) (by omega)
  exact ⟨q1, fun k hk => q2 k (p2 k hk), fun h => q2 _ (p3 h), q3⟩
theorem nbF_spec {n : Nat} {D : List Int} : ∀ (l : List Ed) (N : List Bool), (∀ e ∈ l, edOK n e) → N.length = n → (nbF D N l).length = n ∧ (∀ k, N.getD k false = true → (nbF D N l).getD k false = true) ∧ ∀ e ∈ l, (D.getD e.b.toNat 0 = D.getD e.a.toNat 0 - 1 → (nbF D N l).getD e.a.toNat false = true) ∧ (D.getD e.a.toNat 0 = D.getD e.b.toNat 0 - 1 → (nbF D N l).getD e.b.toNat false = true)
  | [], N, _, h => ⟨h, fun k hk => hk, fun e he => (by cases he)⟩
  | x :: l, N, hl, h => by
    obtain ⟨p1, p2, p3, p4⟩ := nbS_spec (D := D) h (hl x (by simp))
    obtain ⟨q1, q2, q3⟩ := nbF_spec l (nbS D N x) (fun e he => hl e (by simp [he])) p1
    have e0 : nbF D N (x :: l) = nbF D (nbS D N x) l := rfl
    rw [e0]
    refine ⟨q1, fun k hk => q2 k (p2 k hk), fun e he => ?_⟩
    rcases List.mem_cons.1 he with rfl | he
    · exact ⟨fun h => q2 _ (p3 h), fun h => q2 _ (p4 h)⟩
    · exact q3 e he
theorem near_all {n : Nat} {l : List Ed} (hl : ∀ e ∈ l, edOK n e) {a : Nat} (ha : a < n) {D : List Int} (h : IsD n l a D) {b : Nat} (hb : b < n) (h0 : 0 ≤ D.getD b 0) : (nbF D ((List.replicate n false).set a true) l).getD b false = true := by
  obtain ⟨_, q2, q3⟩ := nbF_spec (n := n) (D := D) l ((List.replicate n false).set a true) hl (by simp)
  rcases h.back b hb h0 with rfl | ⟨y, hy, ⟨e, he, hA⟩, h1, h2⟩
  · exact q2 _ (by rw [getD_set, if_pos ⟨rfl, by simpa using hb⟩])
  · obtain ⟨e1, e2, _⟩ := hl e he
    rcases hA with ⟨hA1, hA2⟩ | ⟨hA1, hA2⟩
    · have ea : e.a.toNat = b := by omega
      have eb : e.b.toNat = y := by omega
      have := (q3 e he).1 (by rw [ea, eb]; omega)
      rwa [ea] at this
    · have ea : e.b.toNat = b := by omega
      have eb : e.a.toNat = y := by omega
      have := (q3 e he).2 (by rw [ea, eb]; omega)
      rwa [ea] at this
theorem conn_trans {n : Nat} {l : List Ed} {D : Nat → List Int} (hD : ∀ a < n, IsD n l a (D a)) {c : Nat} (hc : c < n) {a : Nat} (ha : a < n) : ∀ (k b : Nat), b < n → (D a).getD b 0 = k → Conn D b c → Conn D a c
  | k, b, hb, hk, h => by
    rcases (hD a ha).back b hb (by omega) with rfl | ⟨y, hy, hA, h1, h2⟩
    · exact h
    · match k with
      | 0 => omega
      | k + 1 => exact conn_trans hD hc ha k y hy (by omega) (conn_step hD hy hb hc hA.symm h)
theorem comp_same {n : Nat} {l : List Ed} (hl : ∀ e ∈ l, edOK n e) (hn : n ≤ 24) {a b : Nat} (ha : a < n) (hb : b < n) : (0 ≤ (dsF n l a).getD b 0 → (cpF n l).getD b 0 = (cpF n l).getD a 0) ∧ ((dsF n l a).getD b 0 < 0 → (cpF n l).getD b 0 ≠ (cpF n l).getD a 0) := by
  have hD := ds_all hl hn
  obtain ⟨ca, ea, la, pa, qa⟩ := cpF_spec hl hn ha
  obtain ⟨cb, eb, lb, pb, qb⟩ := cpF_spec hl hn hb
  have tr : ∀ {x y z : Nat}, x < n → y < n → z < n → Conn (dsF n l) x y → Conn (dsF n l) y z → Conn (dsF n l) x z := fun {x y z} hx hy hz h1 h2 => by
    obtain ⟨k, hk⟩ := Int.eq_ofNat_of_zero_le h1
    exact conn_trans hD hz hx k y hy hk h2
  have sy : ∀ {x y : Nat}, x < n → y < n → Conn (dsF n l) x y → Conn (dsF n l) y x := fun {x y} hx hy h => by
    show 0 ≤ (dsF n l y).getD x 0
    rw [isD_symm hD y x hy hx]; exact h
  constructor
  · intro h
    rw [ea, eb]
    have h1 : Conn (dsF n l) b ca := tr hb ha la (sy ha hb h) pa
    have h2 : Conn (dsF n l) a cb := tr ha hb lb h pb
    unfold Conn at h1 h2
    by_cases e : ca < cb
    · have := qb ca e; omega
    · by_cases e2 : cb < ca
      · have := qa cb e2; omega
      · omega
  · intro h e
    rw [ea, eb] at e
    obtain rfl : cb = ca := by omega
    have : Conn (dsF n l) a b := tr ha la hb pa (sy hb la pb)
    unfold Conn at this; omega
end Go.Vx.L18

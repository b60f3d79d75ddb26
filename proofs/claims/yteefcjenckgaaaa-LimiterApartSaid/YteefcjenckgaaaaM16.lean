/- Lemmas of a small executor for the model, and contracts of functions, used for the law that this claim proves. No condition. -/
import Derived.Test.YteefcjenckgaaaaM15
set_option linter.unusedSimpArgs false
set_option linter.unusedVariables false
set_option maxRecDepth 100000
namespace Go.Vx.L28
open Go Go.Proofs
/-- The requests before the k-th are of clients below the cap, none earlier than the one before it. -/
def Ap (c : Cf) (l : List Rq) (x : Nat) : Prop := ∀ j, j < x → 0 ≤ (l.getD j (0, 0)).1 ∧ (l.getD j (0, 0)).1 < c.cap ∧ (0 < j → (l.getD (j - 1) (0, 0)).2 ≤ (l.getD j (0, 0)).2)
theorem Ap_succ {c : Cf} {l : List Rq} {x : Nat} (h : Ap c l x) (h1 : 0 ≤ (l.getD x (0, 0)).1) (h2 : (l.getD x (0, 0)).1 < c.cap) (h3 : 0 < x → (l.getD (x - 1) (0, 0)).2 ≤ (l.getD x (0, 0)).2) : Ap c l (x + 1) := by
  intro j hj
  rcases Nat.lt_or_ge j x with hlt | hge
  · exact h j hlt
  · have : j = x := by omega
    subst this; exact ⟨h1, h2, h3⟩
/-- A limiter of many clients, and one that knows at most the one. -/
structure Two (c : Cf) (m : Int) (a b : PS) : Prop where
  ia : PInv c a
  ib : PInv c b
  ha : ∀ k ∈ a.ks, k < c.cap
  hb : Solo m b
  mem : m ∈ a.ks ↔ m ∈ b.ks
  val : m ∈ a.ks → a.g m = b.g m
theorem room {c : Cf} {a : PS} {n : Int} (ia : PInv c a) (ha : ∀ k ∈ a.ks, k < c.cap) (h0 : 0 ≤ n) (h1 : n < c.cap) (hn : n ∉ a.ks) : ¬ c.cap ≤ a.ks.length := by
  have := sub_len (n :: a.ks) ((List.range c.cap.toNat).map Int.ofNat) (List.nodup_cons.2 ⟨hn, ia.2.2.1⟩) fun k hk => by
    have hk' : 0 ≤ k ∧ k < c.cap := by
      rcases List.mem_cons.1 hk with rfl | hk
      · exact ⟨h0, h1⟩
      · exact ⟨(ia.2.2.2.2 k hk).1, ha k hk⟩
    exact List.mem_map.2 ⟨k.toNat, List.mem_range.2 (by omega), by show ((k.toNat : Nat) : Int) = k; omega⟩
  simp only [List.length_cons, List.length_map, List.length_range] at this
  omega
theorem two_other {c : Cf} {m n t : Int} {a b : PS} (hc : cfOK c = true) (h : Two c m a b) (h0 : 0 ≤ n) (h1 : n < c.cap) (hn : n ≠ m) : Two c m (askF c a n t).2 b := by
  have hcc := hc
  simp only [cfOK, decide_eq_true_eq] at hcc
  obtain ⟨ia, ib, ha, hb, mem, val⟩ := h
  have ia' := ask_inv (t := t) (n := n) hc ia (by omega)
  by_cases e1 : n < 0 ∨ ¬ (0 ≤ t ∧ t ≤ 1125899906842624)
  · rw [ask_e1 e1]; exact ⟨ia, ib, ha, hb, mem, val⟩
  by_cases e2 : t < a.now
  · rw [ask_e2 e1 e2]; exact ⟨ia, ib, ha, hb, mem, val⟩
  have hmn : ∀ r : Rec, updG a.g n r m = a.g m := fun r => by simp only [updG]; rw [if_neg (fun e => hn e.symm)]
  by_cases hk : n ∈ a.ks
  · rw [ask_k e1 e2 hk] at ia' ⊢
    exact ⟨ia', ib, ha, hb, mem, fun q => by simp only [hmn]; exact val q⟩
  · have r1 := room ia ha h0 h1 hk
    rw [ask_n e1 e2 hk, meet_room (s := ⟨t, a.ks, a.g⟩) r1] at ia' ⊢
    refine ⟨ia', ib, fun k q => ?_, hb, ?_, fun q => ?_⟩
    · simp only [List.mem_append, List.mem_singleton] at q
      rcases q with q | rfl
      · exact ha k q
      · exact h1
    · simp only [List.mem_append, List.mem_singleton]
      rw [← mem]
      exact ⟨fun q => q.elim id fun e => absurd e.symm hn, .inl⟩
    · simp only [List.mem_append, List.mem_singleton] at q
      simp only [hmn]
      exact val (q.elim id fun e => absurd e.symm hn)
theorem two_same {c : Cf} {m t : Int} {a b : PS} (hc : cfOK c = true) (h : Two c m a b) (h0 : 0 ≤ m) (h1 : m < c.cap) (ha' : 0 ≤ t → a.now ≤ t) (hb' : 0 ≤ t → b.now ≤ t) : Two c m (askF c a m t).2 (askF c b m t).2 ∧ (askF c a m t).1 = (askF c b m t).1 := by
  have hcc := hc
  simp only [cfOK, decide_eq_true_eq] at hcc
  obtain ⟨ia, ib, ha, hb, mem, val⟩ := h
  have ia' := ask_inv (t := t) (n := m) hc ia (by omega)
  have ib' := ask_inv (t := t) (n := m) hc ib (by omega)
  have hb2 := solo_inv (t := t) hc hb
  by_cases e1 : m < 0 ∨ ¬ (0 ≤ t ∧ t ≤ 1125899906842624)
  · rw [ask_e1 e1, ask_e1 e1]; exact ⟨⟨ia, ib, ha, hb, mem, val⟩, rfl⟩
  have e2 : ¬ t < a.now := by have := ha' (by omega); omega
  have e3 : ¬ t < b.now := by have := hb' (by omega); omega
  by_cases hk : m ∈ a.ks
  · have hk' := mem.1 hk
    rw [ask_k e1 e2 hk] at ia' ⊢
    rw [ask_k e1 e3 hk'] at ib' hb2 ⊢
    refine ⟨⟨ia', ib', ha, hb2, mem, fun q => ?_⟩, ?_⟩
    · simp only [updG, if_pos]; rw [val hk]
    · rw [val hk]
  · have hk' := fun q => hk (mem.2 q)
    have r2 : ¬ c.cap ≤ b.ks.length := by
      rcases hb with hb | hb
      · rw [hb]; simp; omega
      · rw [hb] at hk'; simp at hk'
    have r1 := room ia ha h0 h1 hk
    rw [ask_n e1 e2 hk, meet_room (s := ⟨t, a.ks, a.g⟩) r1] at ia' ⊢
    rw [ask_n e1 e3 hk', meet_room (s := ⟨t, b.ks, b.g⟩) r2] at ib' hb2 ⊢
    refine ⟨⟨ia', ib', fun k q => ?_, hb2, ?_, fun q => ?_⟩, rfl⟩
    · simp only [List.mem_append, List.mem_singleton] at q
      rcases q with q | rfl
      · exact ha k q
      · exact h1
    · simp
    · simp only [updG, if_pos]
theorem now_ask {c : Cf} {s : PS} {n t w : Int} (h : s.now ≤ w) (h1 : 0 ≤ t → t ≤ w) : (askF c s n t).2.now ≤ w := by
  by_cases e1 : n < 0 ∨ ¬ (0 ≤ t ∧ t ≤ 1125899906842624)
  · rw [ask_e1 e1]; exact h
  by_cases e2 : t < s.now
  · rw [ask_e2 e1 e2]; exact h
  have : t ≤ w := h1 (by omega)
  by_cases hk : n ∈ s.ks
  · rw [ask_k e1 e2 hk]; exact this
  · rw [ask_n e1 e2 hk]; exact this
def bN (c : Cf) (l : List Rq) (m : Int) : Nat → PS
  | 0 => PS0
  | k + 1 => if (l.getD k (0, 0)).1 = m then (askF c (bN c l m k) m (l.getD k (0, 0)).2).2 else bN c l m k
def nowB (l : List Rq) : Nat → Int
  | 0 => 0
  | k + 1 => max 0 (l.getD k (0, 0)).2
theorem nowB_le {c : Cf} {l : List Rq} {k : Nat} (h : Ap c l (k + 1)) : nowB l k ≤ nowB l (k + 1) ∧ (0 ≤ (l.getD k (0, 0)).2 → nowB l k ≤ (l.getD k (0, 0)).2) := by
  cases k with
  | zero => simp only [nowB]; omega
  | succ k =>
    have := (h (k + 1) (by omega)).2.2 (by omega)
    simp only [Nat.add_sub_cancel] at this
    simp only [nowB]; omega
theorem two_N {c : Cf} (hc : cfOK c = true) {l : List Rq} {m : Int} : ∀ k, Ap c l k → Two c m (pN c l k) (bN c l m k) ∧ (pN c l k).now ≤ nowB l k ∧ (bN c l m k).now ≤ nowB l k
  | 0, _ => ⟨⟨PInv_0 hc, PInv_0 hc, fun k h => by simp [pN, PS0] at h, .inl rfl, Iff.rfl, fun _ => rfl⟩, Int.le_refl _, Int.le_refl _⟩
  | k + 1, h => by
    obtain ⟨h1, h2, h3⟩ := two_N hc (m := m) k fun j hj => h j (by omega)
    obtain ⟨q1, q2⟩ := nowB_le h
    obtain ⟨p1, p2, _⟩ := h k (by omega)
    have hw : 0 ≤ (l.getD k (0, 0)).2 → (l.getD k (0, 0)).2 ≤ nowB l (k + 1) := fun _ => by simp only [nowB]; omega
    by_cases hm : (l.getD k (0, 0)).1 = m
    · have e : bN c l m (k + 1) = (askF c (bN c l m k) m (l.getD k (0, 0)).2).2 := by simp only [bN]; rw [if_pos hm]
      rw [e]
      simp only [pN, hm]
      exact ⟨(two_same hc h1 (hm ▸ p1) (hm ▸ p2) (fun q => by have := q2 q; omega) (fun q => by have := q2 q; omega)).1, now_ask (by omega) hw, now_ask (by omega) hw⟩
    · have e : bN c l m (k + 1) = bN c l m k := by simp only [bN]; rw [if_neg hm]
      rw [e]
      exact ⟨two_other hc h1 p1 p2 hm, now_ask (by omega) hw, by omega⟩
theorem two_ans {c : Cf} (hc : cfOK c = true) {l : List Rq} {m : Int} {k : Nat} (h : Ap c l (k + 1)) (hm : (l.getD k (0, 0)).1 = m) : (askF c (pN c l k) m (l.getD k (0, 0)).2).1 = (askF c (bN c l m k) m (l.getD k (0, 0)).2).1 := by
  obtain ⟨h1, h2, h3⟩ := two_N hc (m := m) k fun j hj => h j (by omega)
  obtain ⟨q1, q2⟩ := nowB_le h
  obtain ⟨p1, p2, _⟩ := h k (by omega)
  exact (two_same hc h1 (hm ▸ p1) (hm ▸ p2) (fun q => by have := q2 q; omega) (fun q => by have := q2 q; omega)).2
end Go.Vx.L28

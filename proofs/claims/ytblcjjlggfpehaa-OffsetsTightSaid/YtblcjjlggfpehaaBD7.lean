/- Lemmas of a small executor for the model, and contracts of functions, used for the law that this claim proves. No condition. -/
import Derived.Test.YtblcjjlggfpehaaBD6
set_option linter.unusedSimpArgs false
set_option linter.unusedVariables false
set_option maxRecDepth 100000
namespace Go.Vx.L53
open Go Go.Proofs
theorem rlN_src {X : List Int} {l : List Cn} (hl : allOK X.length l) : ∀ x, x ≤ l.length → ∀ b, b < X.length →
    ((rlN X l x).2.getD b 0 < 0 ∧ (rlN X l x).1.getD b 0 = X.getD b 0) ∨ ∃ i : Nat, (rlN X l x).2.getD b 0 = i ∧ i < x ∧ (l.getD i cn0).b.toNat = b ∧ (rlN X l x).1.getD b 0 = X.getD (l.getD i cn0).a.toNat 0 + (l.getD i cn0).w
  | 0, _ => fun b hb => .inl ⟨by
      show (List.replicate X.length (-1 : Int)).getD b 0 < 0
      rw [List.getD_eq_getElem?_getD, List.getElem?_replicate, if_pos hb]; decide, rfl⟩
  | x + 1, hx => fun b hb => by
    have ih := rlN_src hl x (by omega) b hb
    obtain ⟨l1, l2⟩ := rlN_len X l x
    have hc := hl _ (getD_mem l x cn0 (by omega))
    unfold rlN rl1
    split
    · simp only
      rw [getD_set', getD_set', l1, l2]
      by_cases e : b = (l.getD x cn0).b.toNat
      · rw [if_pos ⟨e, by omega⟩, if_pos ⟨e, by omega⟩]
        exact .inr ⟨x, rfl, by omega, e.symm, rfl⟩
      · rw [if_neg (fun h => e h.1), if_neg (fun h => e h.1)]
        rcases ih with h | ⟨i, h1, h2, h3⟩
        · exact .inl h
        · exact .inr ⟨i, h1, by omega, h3⟩
    · rcases ih with h | ⟨i, h1, h2, h3⟩
      · exact .inl h
      · exact .inr ⟨i, h1, by omega, h3⟩
theorem by_src {l : List Cn} {n r b : Nat} (hl : allOK n l) (hb : b < n) :
    ((byN l n r).getD b 0 < 0 ∧ (lst l n (r + 1)).getD b 0 = (lst l n r).getD b 0) ∨ ∃ i : Nat, (byN l n r).getD b 0 = i ∧ i < l.length ∧ (l.getD i cn0).b.toNat = b ∧ (lst l n (r + 1)).getD b 0 = (lst l n r).getD (l.getD i cn0).a.toNat 0 + (l.getD i cn0).w ∧ (lst l n (r + 1)).getD b 0 < (lst l n r).getD b 0 := by
  have hL := lst_len l n r
  have h := rlN_src (X := lst l n r) (l := l) (by rw [hL]; exact hl) l.length (Nat.le_refl _) b (by omega)
  have h2 := (rlN_le (X := lst l n r) (l := l) (by rw [hL]; exact hl) l.length (Nat.le_refl _) b).2 (by omega)
  rcases h with h | ⟨i, h3, h4, h5, h6⟩
  · exact .inl h
  · exact .inr ⟨i, h3, h4, h5, h6, h2 (by omega)⟩
theorem lst_edge {l : List Cn} {n r z : Nat} (hl : allOK n l) (hz : z < l.length) : (lst l n (r + 1)).getD (l.getD z cn0).b.toNat 0 ≤ (lst l n r).getD (l.getD z cn0).a.toNat 0 + (l.getD z cn0).w :=
  rlN_in (X := lst l n r) (l := l) (by rw [lst_len]; exact hl) l.length (Nat.le_refl _) z hz
theorem by_prev {l : List Cn} {n k b i : Nat} (hl : allOK n l) (hb : b < n) (h : (byN l n (k + 1)).getD b 0 = i) : 0 ≤ (byN l n k).getD (l.getD i cn0).a.toNat 0 := by
  rcases by_src (r := k + 1) hl hb with ⟨h1, _⟩ | ⟨j, h1, h2, h3, h4, h5⟩
  · omega
  · have e : i = j := by omega
    subst e
    have hc := hl _ (getD_mem l i cn0 h2)
    rcases by_src (r := k) hl (show (l.getD i cn0).a.toNat < n by omega) with ⟨_, g⟩ | ⟨j, h1, _⟩
    · have := lst_edge (n := n) (r := k) hl h2
      rw [h3] at this
      omega
    · omega
/-- The sum of the constraints of a list. -/
def wtL (l : List Cn) : List Int → Int
  | [] => 0
  | i :: S => (l.getD i.toNat cn0).w + wtL l S
theorem wtL_app (l : List Cn) : ∀ S T, wtL l (S ++ T) = wtL l S + wtL l T
  | [], T => by simp [wtL]
  | i :: S, T => by simp only [List.cons_append, wtL, wtL_app l S T]; omega
/-- The constraints of a list are a way from v to u. -/
def Ch (l : List Cn) (v : Int) : List Int → Int → Prop
  | [], u => v = u
  | i :: S, u => (0 ≤ i ∧ i.toNat < l.length ∧ (l.getD i.toNat cn0).a = v) ∧ Ch l (l.getD i.toNat cn0).b S u
theorem Ch_app (l : List Cn) : ∀ (S T : List Int) (v u : Int), Ch l v (S ++ T) u ↔ ∃ m, Ch l v S m ∧ Ch l m T u
  | [], T, v, u => by simp [Ch]
  | i :: S, T, v, u => by
    simp only [List.cons_append, Ch, Ch_app l S T]
    constructor
    · rintro ⟨h, m, h1, h2⟩; exact ⟨m, ⟨h, h1⟩, h2⟩
    · rintro ⟨m, ⟨h, h1⟩, h2⟩; exact ⟨h, m, h1, h2⟩
theorem Ch_mem {l : List Cn} : ∀ {S : List Int} {v u : Int}, Ch l v S u → ∀ i ∈ S, 0 ≤ i ∧ i.toNat < l.length
  | [], _, _, _ => fun i hi => by cases hi
  | j :: S, v, u, h => fun i hi => by
    rcases List.mem_cons.1 hi with rfl | hi
    · exact ⟨h.1.1, h.1.2.1⟩
    · exact Ch_mem h.2 i hi
theorem Ch_end {l : List Cn} {n : Nat} (hl : allOK n l) : ∀ {S : List Int} {v u : Int}, Ch l v S u → (0 ≤ v ∧ v < n) → (0 ≤ u ∧ u < n)
  | [], _, _, h => fun hv => by rw [← show _ = _ from h]; exact hv
  | j :: S, v, u, h => fun _ => Ch_end hl h.2 (hl _ (getD_mem l j.toNat cn0 h.1.2.1)).2.1
theorem Ch_lst {l : List Cn} {n : Nat} (hl : allOK n l) : ∀ {S : List Int} {v u : Int} (r : Nat), Ch l v S u → (lst l n (r + S.length)).getD u.toNat 0 ≤ (lst l n r).getD v.toNat 0 + wtL l S
  | [], _, _, r, h => by rw [← show _ = _ from h]; simp [wtL]
  | j :: S, v, u, r, h => by
    have h1 := Ch_lst hl (r + 1) h.2
    have h2 := lst_edge (n := n) (r := r) hl h.1.2.1
    rw [h.1.2.2] at h2
    rw [wtL, List.length_cons, show r + (S.length + 1) = r + 1 + S.length by omega]
    omega
theorem Ch_pot {l m : List Cn} {y : Nat → Int} (hy : pot m y) : ∀ {S : List Int} {v u : Int}, Ch l v S u → (∀ i ∈ S, l.getD i.toNat cn0 ∈ m) → y u.toNat - y v.toNat ≤ wtL l S
  | [], _, _, h, _ => by rw [← show _ = _ from h]; simp [wtL]
  | j :: S, v, u, h, hm => by
    have h1 := Ch_pot hy h.2 fun i hi => hm i (List.mem_cons_of_mem _ hi)
    have h2 := hy _ (hm j (List.mem_cons_self ..))
    rw [h.1.2.2] at h2
    rw [wtL]; omega
/-- The path, from its end. -/
def ptN (l : List Cn) (n : Nat) : Nat → Int × List Int
  | 0 => (endF (byN l n (n - 1)), [])
  | x + 1 => ((l.getD ((byN l n (n - 1 - x)).getD (ptN l n x).1.toNat 0).toNat cn0).a, (byN l n (n - 1 - x)).getD (ptN l n x).1.toNat 0 :: (ptN l n x).2)
def pth (l : List Cn) (n : Nat) : List Int := (ptN l n n).2
theorem ptN_len (l : List Cn) (n : Nat) : ∀ x, (ptN l n x).2.length = x
  | 0 => rfl
  | x + 1 => by simp [ptN, ptN_len l n x]
theorem endF_pos {D : List Int} (h : chgL D = true) : 0 ≤ endF D ∧ endF D < D.length ∧ 0 ≤ D.getD (endF D).toNat 0 := by
  have h1 := endF_neg D
  rw [h] at h1
  have h2 := endF_rg D
  have h3 : ¬ endF D < 0 := fun e => by have := h1.1 e; cases this
  refine ⟨by omega, h2.2, ?_⟩
  unfold endF at h3 ⊢
  split at h3
  · rename_i i e
    obtain ⟨g1, g2, _⟩ := List.findIdx?_eq_some_iff_getElem.1 e
    rw [Int.toNat_natCast, List.getD_eq_getElem?_getD, List.getElem?_eq_getElem g1]
    simpa using g2
  · omega
theorem pt_inv {l : List Cn} {n : Nat} (hn : 1 ≤ n) (hl : allOK n l) (hc : cyc l n = true) : ∀ x, x ≤ n → (0 ≤ (ptN l n x).1 ∧ (ptN l n x).1 < n) ∧ (x < n → 0 ≤ (byN l n (n - 1 - x)).getD (ptN l n x).1.toNat 0 ∧ (byN l n (n - 1 - x)).getD (ptN l n x).1.toNat 0 < l.length) ∧
    Ch l (ptN l n x).1 (ptN l n x).2 (endF (byN l n (n - 1))) ∧ wtL l (ptN l n x).2 + (lst l n (n - x)).getD (ptN l n x).1.toNat 0 = (lst l n n).getD (endF (byN l n (n - 1))).toNat 0
  | 0, _ => by
    obtain ⟨h1, h2, h3⟩ := endF_pos (show chgL (byN l n (n - 1)) = true from hc)
    rw [byN_len] at h2
    refine ⟨⟨h1, h2⟩, fun _ => ⟨h3, ?_⟩, rfl, by simp [ptN, wtL]⟩
    rcases by_src (r := n - 1) hl (show (endF (byN l n (n - 1))).toNat < n by omega) with ⟨g, _⟩ | ⟨i, g1, g2, _⟩
    · omega
    · show (byN l n (n - 1)).getD (endF (byN l n (n - 1))).toNat 0 < l.length
      omega
  | x + 1, hx => by
    obtain ⟨hv, hb, hch, hw⟩ := pt_inv hn hl hc x (by omega)
    have hb := hb (by omega)
    unfold ptN
    simp only
    generalize ptN l n x = p at *
    rcases by_src (r := n - 1 - x) hl (show p.1.toNat < n by omega) with ⟨g, _⟩ | ⟨i, g1, g2, g3, g4, g5⟩
    · omega
    have hci := hl _ (getD_mem l i cn0 g2)
    rw [g1, Int.toNat_natCast]
    have hpb : (l.getD i cn0).b = p.1 := by omega
    refine ⟨hci.1, fun hx1 => ?_, ⟨⟨by omega, by rw [Int.toNat_natCast]; exact g2, by rw [Int.toNat_natCast]⟩, by rw [Int.toNat_natCast, hpb]; exact hch⟩, ?_⟩
    · have e : n - 1 - x = (n - 1 - (x + 1)) + 1 := by omega
      rw [e] at g1
      have := by_prev hl (by omega) g1
      refine ⟨this, ?_⟩
      rcases by_src (r := n - 1 - (x + 1)) hl (show (l.getD i cn0).a.toNat < n by omega) with ⟨g, _⟩ | ⟨j, h1, h2, _⟩ <;> omega
    · rw [wtL, Int.toNat_natCast]
      rw [show n - 1 - x + 1 = n - x by omega] at g4
      rw [show n - (x + 1) = n - 1 - x by omega]
      omega
/-- The last of the first m entries of a stack that starts in v. -/
def sc (l : List Cn) (S : List Int) (v : Int) : Nat → Option Nat
  | 0 => none
  | k + 1 => if (l.getD (S.getD k 0).toNat cn0).a = v then some k else sc l S v k
theorem sc_none {l : List Cn} {S : List Int} {v : Int} : ∀ {m}, sc l S v m = none → ∀ z, z < m → (l.getD (S.getD z 0).toNat cn0).a ≠ v
  | 0, _ => fun z hz => by omega
  | k + 1, h => fun z hz => by
    unfold sc at h
    split at h
    · cases h
    · rename_i h1
      by_cases e : z = k
      · rw [e]; exact h1
      · exact sc_none h z (by omega)
theorem sc_some {l : List Cn} {S : List Int} {v : Int} {k : Nat} : ∀ {m}, sc l S v m = some k → k < m ∧ (l.getD (S.getD k 0).toNat cn0).a = v
  | 0, h => by cases h
  | j + 1, h => by
    unfold sc at h
    split at h
    · rename_i h1; cases h; exact ⟨by omega, h1⟩
    · obtain ⟨h1, h2⟩ := sc_some h; exact ⟨by omega, h2⟩
def stP (p : List Int) (x : Nat) (S : List Int) : List Int := S ++ [p.getD x 0]
def scP (l : List Cn) (p : List Int) (x : Nat) (S : List Int) : Option Nat := sc l (stP p x S) (l.getD (p.getD x 0).toNat cn0).b (stP p x S).length
/-- The stack. -/
def stN (l : List Cn) (p : List Int) : Nat → List Int
  | 0 => []
  | x + 1 => match scP l p x (stN l p x) with
    | none => stP p x (stN l p x)
    | some k => (stP p x (stN l p x)).take k
/-- The cycle that is found. -/
def cyF (l : List Cn) (p : List Int) : Nat → Nat → List Int
  | 0, _ => []
  | m + 1, x => match scP l p x (stN l p x) with
    | none => cyF l p m (x + 1)
    | some k => if wtL l ((stP p x (stN l p x)).drop k) < 0 then (stP p x (stN l p x)).drop k else cyF l p m (x + 1)
def cyK (l : List Cn) (n : Nat) : List Int := if cyc l n then cyF l (pth l n) n 0 else []
def aS (l : List Cn) (S : List Int) : List Int := S.map fun i => (l.getD i.toNat cn0).a
structure StI (l : List Cn) (p : List Int) (s u : Int) (x : Nat) (S : List Int) : Prop where
  ch : Ch l s S u
  nd : (aS l S ++ [u]).Nodup
  wt : wtL l S ≤ wtL l (p.take x)
theorem take_split {S : List Int} {k : Nat} (h : k < S.length) : S.take k ++ S.drop k = S ∧ S.drop k = S.getD k 0 :: S.drop (k + 1) := by
  refine ⟨List.take_append_drop _ _, ?_⟩
  rw [List.drop_eq_getElem_cons h, List.getD_eq_getElem?_getD, List.getElem?_eq_getElem h]; rfl
theorem stP_nd {l : List Cn} {p : List Int} {s u : Int} {x : Nat} {S : List Int} (h : StI l p s u x S) (ha : (l.getD (p.getD x 0).toNat cn0).a = u) : (aS l (stP p x S)).Nodup := by
  have := h.nd
  unfold aS stP at *
  rw [List.map_append, List.map_singleton, ha]; exact this
theorem stP_ch {l : List Cn} {p : List Int} {s u : Int} {x : Nat} {S : List Int} (h : StI l p s u x S) (h0 : 0 ≤ p.getD x 0 ∧ (p.getD x 0).toNat < l.length) (ha : (l.getD (p.getD x 0).toNat cn0).a = u) : Ch l s (stP p x S) (l.getD (p.getD x 0).toNat cn0).b :=
  (Ch_app l _ _ _ _).2 ⟨u, h.ch, ⟨h0.1, h0.2, ha⟩, rfl⟩
theorem stP_wt {l : List Cn} {p : List Int} {s u : Int} {x : Nat} {S : List Int} (hx : x < p.length) (h : StI l p s u x S) : wtL l (stP p x S) ≤ wtL l (p.take (x + 1)) := by
  rw [take_snoc p x 0 hx, stP, wtL_app, wtL_app]
  have := h.wt
  omega
/-- A closed way is found, or the stack goes on. -/
theorem st_step {l : List Cn} {p : List Int} {s u : Int} {x : Nat} {S : List Int} (hx : x < p.length) (h : StI l p s u x S) (h0 : 0 ≤ p.getD x 0 ∧ (p.getD x 0).toNat < l.length) (ha : (l.getD (p.getD x 0).toNat cn0).a = u) :
    (scP l p x S = none ∧ StI l p s (l.getD (p.getD x 0).toNat cn0).b (x + 1) (stP p x S)) ∨ ∃ k, scP l p x S = some k ∧ k < (stP p x S).length ∧ Ch l (l.getD (p.getD x 0).toNat cn0).b ((stP p x S).drop k) (l.getD (p.getD x 0).toNat cn0).b ∧
      (0 ≤ wtL l ((stP p x S).drop k) → StI l p s (l.getD (p.getD x 0).toNat cn0).b (x + 1) ((stP p x S).take k)) := by
  have hnd := stP_nd h ha
  have hch := stP_ch h h0 ha
  have hwt := stP_wt hx h
  unfold scP
  generalize (l.getD (p.getD x 0).toNat cn0).b = v at *
  generalize stP p x S = T at *
  cases hs : sc l T v T.length with
  | none =>
    refine .inl ⟨rfl, hch, ?_, hwt⟩
    rw [List.nodup_append]
    refine ⟨hnd, by simp, fun a ha b hb => ?_⟩
    obtain rfl := List.mem_singleton.1 hb
    obtain ⟨i, hi, rfl⟩ := List.mem_map.1 ha
    obtain ⟨z, hz, rfl⟩ := mem_get (d := 0) hi
    exact sc_none hs z hz
  | some k =>
    obtain ⟨h1, h2⟩ := sc_some hs
    obtain ⟨e1, e2⟩ := take_split h1
    obtain ⟨m, c1, c2⟩ := (Ch_app l (T.take k) (T.drop k) s v).1 (by rw [e1]; exact hch)
    have hm : m = v := by rw [e2] at c2; rw [← c2.1.2.2]; exact h2
    subst hm
    refine .inr ⟨k, rfl, h1, c2, fun hw => ⟨c1, ?_, ?_⟩⟩
    · have h3 := hnd
      rw [← e1, e2, aS, List.map_append, List.map_cons, h2] at h3
      have h4 : List.Sublist (List.map (fun i => (l.getD i.toNat cn0).a) (T.take k) ++ [m]) (List.map (fun i => (l.getD i.toNat cn0).a) (T.take k) ++ m :: List.map (fun i => (l.getD i.toNat cn0).a) (T.drop (k + 1))) :=
        List.Sublist.append (List.Sublist.refl _) (List.Sublist.cons_cons _ (List.nil_sublist _))
      exact List.Nodup.sublist h4 h3
    · have : wtL l T = wtL l (T.take k) + wtL l (T.drop k) := by rw [← wtL_app, e1]
      omega
/-- What is found is closed and negative. -/
theorem cyF_ok {l : List Cn} {n : Nat} {p : List Int} {s e : Int} (hl : allOK n l) (hp : Ch l s p e) (hpl : p.length = n) (hs : 0 ≤ s ∧ s < n) (hw : wtL l p < (lst l n (n - 1)).getD e.toNat 0) : ∀ (m x : Nat) (u : Int), x + m = n → StI l p s u x (stN l p x) → Ch l u (p.drop x) e →
    cyF l p m x ≠ [] ∧ (∃ v, Ch l v (cyF l p m x) v) ∧ wtL l (cyF l p m x) < 0
  | 0, x, u, hx, hi, hu => by
    exfalso
    have ex : x = n := by omega
    subst ex
    rw [← hpl, List.drop_length] at hu
    obtain rfl : u = e := hu
    obtain ⟨h1, h2, h3⟩ := hi
    rw [← hpl, List.take_length] at h3
    rw [hpl] at h3
    generalize stN l p x = S at *
    have hlen : ((aS l S ++ [u]).map Int.toNat).length ≤ x := by
      refine nodup_len x _ ?_ ?_
      · have hpos : ∀ v ∈ aS l S ++ [u], 0 ≤ v ∧ v < x := by
          intro v hv
          rcases List.mem_append.1 hv with hv | hv
          · obtain ⟨i, hi, rfl⟩ := List.mem_map.1 hv
            exact (hl _ (getD_mem l _ cn0 (Ch_mem h1 i hi).2)).1
          · obtain rfl := List.mem_singleton.1 hv
            exact Ch_end hl h1 hs
        rw [List.nodup_iff_pairwise_ne, List.pairwise_map]
        refine List.Pairwise.imp_of_mem ?_ (List.nodup_iff_pairwise_ne.1 h2)
        intro a b ha hb hab he
        have := hpos a ha
        have := hpos b hb
        omega
      · intro v hv
        obtain ⟨a, ha, rfl⟩ := List.mem_map.1 hv
        rcases List.mem_append.1 ha with hv | hv
        · obtain ⟨i, hi, rfl⟩ := List.mem_map.1 hv
          have := (hl _ (getD_mem l _ cn0 (Ch_mem h1 i hi).2)).1
          omega
        · obtain rfl := List.mem_singleton.1 hv
          have := Ch_end hl h1 hs
          omega
    simp only [List.length_map, List.length_append, aS, List.length_singleton] at hlen
    have h4 := Ch_lst hl (x - 1 - S.length) h1
    rw [show x - 1 - S.length + S.length = x - 1 by omega] at h4
    have h5 := (lst_bnd hl (x - 1 - S.length) s.toNat).2
    omega
  | m + 1, x, u, hx, hi, hu => by
    have hxl : x < p.length := by omega
    obtain ⟨_, e2⟩ := take_split hxl
    rw [e2] at hu
    obtain ⟨⟨u1, u2, u3⟩, u4⟩ := hu
    have hst := st_step hxl hi ⟨u1, u2⟩ u3
    unfold cyF
    rcases hst with ⟨g1, g2⟩ | ⟨k, g1, g2, g3, g4⟩
    · rw [g1]
      simp only
      exact cyF_ok hl hp hpl hs hw m (x + 1) _ (by omega) (by unfold stN; rw [g1]; exact g2) u4
    · rw [g1]
      simp only
      split
      · rename_i hn
        refine ⟨fun e => ?_, ⟨_, g3⟩, hn⟩
        have := congrArg List.length e
        rw [List.length_drop, List.length_nil] at this
        omega
      · exact cyF_ok hl hp hpl hs hw m (x + 1) _ (by omega) (by unfold stN; rw [g1]; exact g4 (by omega)) u4
theorem cyK_ok {l : List Cn} {n : Nat} (hn : 1 ≤ n) (hl : allOK n l) (hc : cyc l n = true) : cyK l n ≠ [] ∧ (∃ v, Ch l v (cyK l n) v) ∧ wtL l (cyK l n) < 0 := by
  unfold cyK
  rw [if_pos hc]
  obtain ⟨h1, _, h3, h4⟩ := pt_inv hn hl hc n (Nat.le_refl _)
  obtain ⟨e1, e2, e3⟩ := endF_pos (show chgL (byN l n (n - 1)) = true from hc)
  rw [byN_len] at e2
  have h5 : (lst l n n).getD (endF (byN l n (n - 1))).toNat 0 < (lst l n (n - 1)).getD (endF (byN l n (n - 1))).toNat 0 := by
    rcases by_src (r := n - 1) hl (show (endF (byN l n (n - 1))).toNat < n by omega) with ⟨g, _⟩ | ⟨i, _, _, _, _, g⟩
    · omega
    · rw [show n - 1 + 1 = n by omega] at g; exact g
  have h0 : (lst l n (n - n)).getD (ptN l n n).1.toNat 0 = 0 := by
    rw [Nat.sub_self, lst, List.getD_eq_getElem?_getD, List.getElem?_replicate]
    split <;> rfl
  refine cyF_ok hl h3 (ptN_len l n n) h1 (by show wtL l (ptN l n n).2 < _; omega) n 0 _ (by omega) ⟨rfl, by simp [stN, aS], by simp [stN, wtL]⟩ h3
theorem cyK_nil {l : List Cn} {n : Nat} (hn : 1 ≤ n) (hl : allOK n l) : decide (0 < (cyK l n).length) = cyc l n := by
  cases hc : cyc l n with
  | true => simpa using List.length_pos_iff.2 (cyK_ok hn hl hc).1
  | false => simp [cyK, hc]
end Go.Vx.L53

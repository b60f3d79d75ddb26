/- Lemmas of a small executor for the model, and contracts of functions, used for the law that this claim proves. No condition. -/
import Derived.Test.YtodbfpjjahpahaaDoorEP3
set_option linter.unusedSimpArgs false
set_option linter.unusedVariables false
/- Lists of memos, and the states that they stand for. -/
set_option maxRecDepth 100000
namespace Go.Vx.L42
open Go Go.Proofs
variable {ns : List Nd} {l : List Ed}
def lxP (M : Mem) (x : Nat) (acc : List Mm) (p : Int) : List Mm := match M x p.toNat with
  | some (a, d) => acc ++ [⟨x, p, a, d⟩]
  | none => acc
/-- The memos of a plain state, in the order of their places. -/
def lxA (rs : List (List Int)) (M : Mem) : Nat → List Mm
  | 0 => []
  | x + 1 => (rs.getD x []).foldl (lxP M x) (lxA rs M x)
abbrev lsX (n : Nat) (rs : List (List Int)) (M : Mem) : List Mm := lxA rs M n
theorem lsA_eq {s : MS} (hS : SOK ns (pkN' ns l) s) : ∀ x, lsA (rsN ns l) s x = lxA (rsN ns l) (memOf s) x
  | 0 => rfl
  | x + 1 => by
    unfold lsA lxA
    rw [lsA_eq hS x]
    have key : ∀ (L : List Int) (acc : List Mm), (∀ p ∈ L, p ∈ (rsN ns l).getD x []) → L.foldl (lsP s x) acc = L.foldl (lxP (memOf s) x) acc := by
      intro L
      induction L with
      | nil => intro acc _; rfl
      | cons p L ih =>
        intro acc hL
        rw [List.foldl_cons, List.foldl_cons]
        have e : lsP s x acc p = lxP (memOf s) x acc p := by
          obtain ⟨_, hp, _⟩ := rs_mem (hL p (by simp))
          have hpn : ((p.toNat : Nat) : Int) = p := by omega
          unfold lsP lxP memOf
          rw [hpn]
          by_cases hc : s.ks.contains [(x : Int), p] = true
          · rw [if_pos hc, if_pos hc]
            have hk := hS.key _ (List.contains_iff_mem.1 hc)
            simp only [List.cons.injEq, and_true] at hk
            simp only
            congr 2
            cases hm : s.g [(x : Int), p] with
            | mk a b c d =>
              rw [hm] at hk
              obtain ⟨rfl, rfl⟩ := hk
              rfl
          · rw [if_neg hc, if_neg hc]
        rw [e]
        exact ih _ fun p' h' => hL p' (by simp [h'])
    exact key _ _ fun p h => h
/-! The state that a list stands for. -/
theorem memAt_ad (s : MS) (m : Mm) (k : List Int) : memAt (ad1 s m) k = if k = [m.node, m.port] then some m else memAt s k := by
  unfold memAt ad1
  simp only [addKey_contains]
  by_cases h : k = [m.node, m.port]
  · have hb : (k == [m.node, m.port]) = true := by simpa using h
    rw [if_pos h, hb, Bool.or_true, if_pos rfl, cond_true]
  · have hb : (k == [m.node, m.port]) = false := by simpa using h
    rw [if_neg h, hb, Bool.or_false, cond_false]
theorem entP_mem (ms : List Mm) : ∀ (x : Nat) (k : List Int) (m : Mm), memAt (entP ms x) k = some m → ∃ i, i < x ∧ ms.getD i mm0 = m ∧ k = [m.node, m.port]
  | 0, k, m, h => by simp [entP, memAt] at h
  | x + 1, k, m, h => by
    rw [entP, memAt_ad] at h
    split at h
    · rename_i hk
      obtain rfl := Option.some.inj h
      exact ⟨x, by omega, rfl, hk⟩
    · obtain ⟨i, h1, h2, h3⟩ := entP_mem ms x k m h
      exact ⟨i, by omega, h2, h3⟩
theorem sok_ent {ms : List Mm} (hL : okL ns (pkN' ns l) ms = true) (hw : ∀ m ∈ ms, wfD m.set) : SOK ns (pkN' ns l) (entS ms) :=
  SOK'.of fun k m hm => by
    obtain ⟨i, h1, h2, h3⟩ := entP_mem ms ms.length k m hm
    have hmem : m ∈ ms := h2 ▸ getD_mem ms i mm0 h1
    unfold okL at hL
    rw [List.all_eq_true] at hL
    have := hL i (List.mem_range.2 h1)
    unfold okM at this
    rw [Bool.and_eq_true, h2] at this
    exact ⟨h3, this.1, hw m hmem⟩
/-- A state whose memos are those of the ports, in a list in order. -/
def VS (ns : List Nd) (l : List Ed) (M : Mem) : Prop := ∀ x p a d, M x p = some (a, d) → vlM ns (pkN' ns l) ⟨x, p, a, d⟩ = true ∧ wfD d
theorem vs_of {s : MS} (hS : SOK ns (pkN' ns l) s) : VS ns l (memOf s) := fun x p a d h => by
  rw [memOf_at] at h
  cases hm : memAt s [(x : Int), (p : Int)] with
  | none => rw [hm] at h; cases h
  | some m =>
    rw [hm] at h
    simp only [Option.map_some, Option.some.injEq, Prod.mk.injEq] at h
    obtain ⟨h1, h2, h3⟩ := hS.to' _ m hm
    simp only [List.cons.injEq, and_true] at h1
    obtain ⟨rfl, rfl⟩ := h
    cases m with
    | mk a b c d =>
      obtain ⟨rfl, rfl⟩ := h1
      exact ⟨h2, h3⟩
/-- What holds of the list's part that is made: memos of nodes before x, or of node x at ports of L's part. -/
def lt2 (k k' : Int × Int) : Prop := k.1 < k'.1 ∨ (k.1 = k'.1 ∧ k.2 < k'.2)
def mk2 (m : Mm) : Int × Int := (m.node, m.port)
structure LX (M : Mem) (A : List Mm) (b : Int × Int) : Prop where
  mem : ∀ m ∈ A, ∃ x p : Nat, m.node = x ∧ m.port = p ∧ M x p = some (m.age, m.set)
  low : ∀ m ∈ A, lt2 (mk2 m) b
  srt : A.Pairwise fun m m' => lt2 (mk2 m) (mk2 m')
theorem lt2_trans {a b c : Int × Int} (h : lt2 a b) (g : lt2 b c) : lt2 a c := by
  unfold lt2 at *; omega
theorem LX.up {M : Mem} {A : List Mm} {b b' : Int × Int} (h : LX M A b) (hb : lt2 b b' ∨ b = b') : LX M A b' :=
  ⟨h.mem, fun m hm => by
    rcases hb with hb | rfl
    · exact lt2_trans (h.low m hm) hb
    · exact h.low m hm, h.srt⟩
theorem lx_fold {M : Mem} {x : Nat} : ∀ (L : List Int) (A : List Mm) (b : Int), LX M A ((x : Int), b) → (∀ p ∈ L, b ≤ p ∧ 1 ≤ p) → L.Pairwise (· < ·) → ∃ b', LX M (L.foldl (lxP M x) A) ((x : Int), b')
  | [], A, b, h, _, _ => ⟨b, h⟩
  | p :: L, A, b, h, hb, hs => by
    rw [List.foldl_cons]
    have hp := hb p (by simp)
    rw [List.pairwise_cons] at hs
    refine lx_fold L _ (p + 1) ?_ (fun p' hp' => ⟨by have := hs.1 p' hp'; omega, by have := hs.1 p' hp'; omega⟩) hs.2
    unfold lxP
    have hup : LX M A ((x : Int), p + 1) := h.up (.inl (.inr ⟨rfl, by show b < p + 1; omega⟩))
    cases hm : M x p.toNat with
    | none => exact hup
    | some v =>
      obtain ⟨a, d⟩ := v
      simp only
      refine ⟨fun m hmm => ?_, fun m hmm => ?_, ?_⟩
      · rcases List.mem_append.1 hmm with hmm | hmm
        · exact h.mem m hmm
        · simp only [List.mem_singleton] at hmm
          subst hmm
          exact ⟨x, p.toNat, rfl, by show p = _; omega, hm⟩
      · rcases List.mem_append.1 hmm with hmm | hmm
        · exact hup.low m hmm
        · simp only [List.mem_singleton] at hmm
          subst hmm
          exact .inr ⟨rfl, by show p < p + 1; omega⟩
      · rw [List.pairwise_append]
        refine ⟨h.srt, List.pairwise_singleton _ _, fun m hmm m' hm' => ?_⟩
        simp only [List.mem_singleton] at hm'
        subst hm'
        have := h.low m hmm
        unfold lt2 mk2 at *
        simp only at *
        omega
theorem rpL_sorted (n : Int) (l : List Ed) (a : Int) : (rpL n l a 8).Pairwise (· < ·) := by
  unfold rpL
  exact List.Pairwise.filter _ (by decide)
theorem rs_sorted (x : Nat) : ((rsN ns l).getD x []).Pairwise (· < ·) := by
  by_cases hx : x < ns.length
  · rw [prR_get _ _ _ _ hx]; exact rpL_sorted _ _ _
  · rw [List.getD_eq_getElem?_getD, List.getElem?_eq_none (by rw [prR_len]; omega)]; simp
theorem lx_ok (M : Mem) : ∀ x, LX M (lxA (rsN ns l) M x) ((x : Int), 0)
  | 0 => ⟨fun m hm => by simp [lxA] at hm, fun m hm => by simp [lxA] at hm, by simp [lxA]⟩
  | x + 1 => by
    obtain ⟨b', h⟩ := lx_fold ((rsN ns l).getD x []) _ 0 (lx_ok M x) (fun p hp => by obtain ⟨_, h, _⟩ := rs_mem hp; omega) (rs_sorted x)
    exact h.up (.inl (.inl (by show (x : Int) < ((x + 1 : Nat) : Int); omega)))
/-- Nothing is left out. -/
theorem lx_has (M : Mem) {y : Nat} {q : Nat} {a : Int} {d : DS} (hq : (q : Int) ∈ (rsN ns l).getD y []) (hM : M y q = some (a, d)) : ∀ x, y < x → (⟨y, q, a, d⟩ : Mm) ∈ lxA (rsN ns l) M x
  | 0, h => by omega
  | x + 1, h => by
    have keep : ∀ (L : List Int) (A : List Mm) (m : Mm), m ∈ A → m ∈ L.foldl (lxP M x) A := by
      intro L
      induction L with
      | nil => intro A m hm; exact hm
      | cons p L ih =>
        intro A m hm
        rw [List.foldl_cons]
        apply ih
        unfold lxP
        split
        · exact List.mem_append_left _ hm
        · exact hm
    have put : ∀ (L : List Int) (A : List Mm), (q : Int) ∈ L → y = x → (⟨y, q, a, d⟩ : Mm) ∈ L.foldl (lxP M x) A := by
      intro L
      induction L with
      | nil => intro A hm _; cases hm
      | cons p L ih =>
        intro A hm hyx
        rw [List.foldl_cons]
        rcases List.mem_cons.1 hm with hm | hm
        · apply keep
          unfold lxP
          subst hyx
          rw [← hm, Int.toNat_natCast, hM]
          simp
        · exact ih _ hm hyx
    rw [lxA]
    by_cases hyx : y = x
    · exact put _ _ (hyx ▸ hq) hyx
    · exact keep _ _ _ (lx_has M hq hM x (by omega))
theorem getD_pair {A : List Mm} (h : A.Pairwise fun m m' => lt2 (mk2 m) (mk2 m')) {i j : Nat} (hij : i < j) (hj : j < A.length) : lt2 (mk2 (A.getD i mm0)) (mk2 (A.getD j mm0)) := by
  rw [List.pairwise_iff_getElem] at h
  have := h i j (by omega) hj hij
  rw [List.getD_eq_getElem?_getD, List.getD_eq_getElem?_getD, List.getElem?_eq_getElem (by omega), List.getElem?_eq_getElem hj]
  exact this
/-- The list of a valid state is valid. -/
theorem lx_okL {M : Mem} (hV : VS ns l M) : okL ns (pkN' ns l) (lxA (rsN ns l) M ns.length) = true := by
  have h := lx_ok (ns := ns) (l := l) M ns.length
  generalize lxA (rsN ns l) M ns.length = A at *
  unfold okL
  rw [List.all_eq_true]
  intro i hi
  have hi := List.mem_range.1 hi
  have hv : ∀ j, j < A.length → vlM ns (pkN' ns l) (A.getD j mm0) = true ∧ (0 ≤ (A.getD j mm0).node ∧ 0 ≤ (A.getD j mm0).port) := fun j hj => by
    obtain ⟨x, p, h1, h2, h3⟩ := h.mem _ (getD_mem A j mm0 hj)
    have := (hV x p _ _ h3).1
    generalize A.getD j mm0 = m at *
    cases m with
    | mk a b c d =>
      simp only at h1 h2 this
      subst h1 h2
      exact ⟨this, by simp, by simp⟩
  unfold okM
  rw [(hv i hi).1, Bool.true_and]
  refine decide_eq_true ?_
  cases i with
  | zero =>
    have := (hv 0 hi).2
    simp only [lastK]; omega
  | succ j =>
    have := getD_pair h.srt (i := j) (j := j + 1) (by omega) hi
    unfold lt2 mk2 at this
    simp only [lastK] at this ⊢
    omega
theorem entP_get {A : List Mm} (h : A.Pairwise fun m m' => lt2 (mk2 m) (mk2 m')) : ∀ (x i : Nat), i < x → x ≤ A.length → memAt (entP A x) [(A.getD i mm0).node, (A.getD i mm0).port] = some (A.getD i mm0)
  | 0, i, hi, _ => by omega
  | x + 1, i, hi, hx => by
    rw [entP, memAt_ad]
    by_cases e : i = x
    · subst e; rw [if_pos rfl]
    · have := getD_pair h (i := i) (j := x) (by omega) (by omega)
      rw [if_neg]
      · exact entP_get h x i (by omega) (by omega)
      · intro q
        simp only [List.cons.injEq, and_true] at q
        unfold lt2 mk2 at this
        simp only at this
        omega
/-- The state that the list of a state stands for is that state. -/
theorem memOf_lx (hN : NOK ns l) {M : Mem} (hV : VS ns l M) : memOf (entS (lxA (rsN ns l) M ns.length)) = M := by
  have h := lx_ok (ns := ns) (l := l) M ns.length
  funext y q
  rw [memOf_at]
  cases hM : M y q with
  | some v =>
    obtain ⟨a, d⟩ := v
    have h1 := vlM_parts (hV y q a d hM).1
    obtain ⟨x, p, e, hx, hp⟩ := (fok hN).pk _ h1.1
    simp only [List.cons.injEq, and_true] at e
    obtain ⟨e1, e2⟩ := e
    have e1 : y = x := by omega
    subst e1 e2
    have hm := lx_has (ns := ns) (l := l) M hp hM ns.length hx
    obtain ⟨i, hi, he⟩ := List.getElem_of_mem hm
    have hg : (lxA (rsN ns l) M ns.length).getD i mm0 = ⟨y, q, a, d⟩ := by
      rw [List.getD_eq_getElem?_getD, List.getElem?_eq_getElem hi, he]; rfl
    have := entP_get h.srt _ i hi (Nat.le_refl _)
    rw [hg] at this
    rw [show memAt (entS (lxA (rsN ns l) M ns.length)) [(y : Int), (q : Int)] = some ⟨y, q, a, d⟩ from this]
    rfl
  | none =>
    cases hm : memAt (entS (lxA (rsN ns l) M ns.length)) [(y : Int), (q : Int)] with
    | none => rfl
    | some m =>
      exfalso
      obtain ⟨i, h1, h2, h3⟩ := entP_mem _ _ _ _ hm
      obtain ⟨x, p, g1, g2, g3⟩ := h.mem m (h2 ▸ getD_mem _ i mm0 h1)
      simp only [List.cons.injEq, and_true] at h3
      have e1 : x = y := by omega
      have e2 : p = q := by omega
      rw [e1, e2, hM] at g3; cases g3
theorem run_VS (hN : NOK ns l) {M : Mem} (s : MS) (hS : SOK ns (pkN' ns l) s) (hM : memOf s = M) : ∀ t, ∃ s', SOK ns (pkN' ns l) s' ∧ memOf s' = (netP ns l).run M t
  | 0 => ⟨s, hS, hM⟩
  | t + 1 => by
    obtain ⟨s', h1, h2⟩ := run_VS hN s hS hM t
    obtain ⟨h3, h4⟩ := round_at hN h1 (W := s'.ks) (fun k => Iff.rfl)
    exact ⟨_, h3, by rw [h4, h2]; rfl⟩
theorem enE_zero {n : Int} {rd : Int} {ms : List Mm} (h : enE n l ns rd ms = 0) : n = ns.length ∧ (0 ≤ rd ∧ rd ≤ 1073741824) ∧ ckE n l ns = 0 ∧ okL ns (pkN' ns l) ms = true := by
  unfold enE at h
  by_cases h1 : ckE n l ns = 0
  · rw [if_neg (by omega)] at h
    obtain ⟨_, h2, _⟩ := ckE_zero h1
    by_cases h3 : rd < 0 ∨ 1073741824 < rd
    · rw [if_pos h3] at h; cases h
    · rw [if_neg h3] at h
      subst h2
      split at h
      · rename_i h4
        exact ⟨rfl, by omega, h1, h4⟩
      · cases h
  · rw [if_pos h1] at h; exact absurd h h1
theorem VM_of (hN : NOK ns l) {M : Mem} (hV : VS ns l M) : (netP ns l).VM M := fun x p a d h => by
  obtain ⟨h1, h2, h3, _, h5, h6⟩ := vlM_parts (hV x p a d h).1
  obtain ⟨y, q, e, hy, hq⟩ := (fok hN).pk _ h1
  simp only [List.cons.injEq, and_true] at e
  obtain ⟨e1, e2⟩ := e
  have e1 : x = y := by omega
  subst e1 e2
  obtain ⟨a1, a2, a3⟩ := rs_mem hq
  refine ⟨?_, h2, h3, ?_, h6⟩
  · simp only [netP]
    rw [if_pos a3]
    exact ⟨_, _, rfl⟩
  · rw [h5]; show (ns.getD ((x : Int).toNat) nd0).id = (ns.getD x nd0).id
    rw [Int.toNat_natCast]
end Go.Vx.L42

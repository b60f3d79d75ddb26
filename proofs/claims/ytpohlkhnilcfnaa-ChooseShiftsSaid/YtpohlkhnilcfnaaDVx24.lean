/- Lemmas of a small executor for the model, and contracts of functions, used for the law that this claim proves. No condition. -/
import Derived.Test.YtpohlkhnilcfnaaDVx21
set_option linter.unusedSimpArgs false
set_option linter.unusedVariables false
/- Arguments of flat types, opened. -/
namespace Go.Vx
open Go.ChangeShapes Go.WideShapes Go.RowKit Go.Deep

inductive FK where
  | int (k : IntKind)
  | bool

def okK : FK → Value → Prop
  | .int k, v => ∃ z, v = .int k z ∧ (Lit.int k z).wf = true
  | .bool, v => ∃ b, v = .bool b
def intOf : Value → Int
  | .int _ z => z
  | _ => 0
def boolOf : Value → Bool
  | .bool b => b
  | _ => false

def flatFs (P : Program) (rc : TypeId → Option (List FK)) : List Field → Nat → Option (List FK)
  | [], _ => some []
  | f :: r, o => match rc f.type, flatFs P rc r (o + P.cellsOf f.type) with
    | some ks, some l => bif Nat.beq f.offset o then some (ks ++ l) else none
    | _, _ => none
def repK (ks : List FK) : Nat → List FK
  | 0 => []
  | n + 1 => ks ++ repK ks n
/-- The kinds of a flat type's cells. -/
def flatK (P : Program) : Nat → TypeId → Option (List FK)
  | 0, _ => none
  | n + 1, t => match P.underlying t with
    | some (.int k) => some [.int k]
    | some .bool => some [.bool]
    | some (.struct fs) => match flatFs P (flatK P n) fs.toList 0 with
      | some l => bif Nat.beq l.length (P.cellsOf t) then some l else none
      | none => none
    | some (.array m e) => match flatK P n e with
      | some ks => bif Nat.beq (P.cellsOf e) ks.length && Nat.beq (repK ks m).length (P.cellsOf t) then some (repK ks m) else none
      | none => none
    | _ => none

section
variable {H : Type} {enc : TypeId × Value → H} {P : Program} {w : World} {base : Nat} {spare : Nat → Bool} {held : Bool}

def OkL (ks : List FK) (cs : List Value) : Prop := cs.length = ks.length ∧ ∀ (j : Nat) (k : FK) (v : Value), ks[j]? = some k → cs[j]? = some v → okK k v

theorem flatFs_ok {rc : TypeId → Option (List FK)} (hrc : ∀ t ks (cs : List Value) fuel x, rc t = some ks → DataW.trod enc P w base spare held fuel t cs = some x → OkL ks cs) {cs : List Value} :
    ∀ (fs : List Field) (o : Nat) (l : List FK), flatFs P rc fs o = some l → (∀ f ∈ fs, ∃ n y, DataW.trod enc P w base spare held n f.type ((cs.drop f.offset).take (P.cellsOf f.type)) = some y) →
      ∀ (j : Nat) (k : FK) (v : Value), l[j]? = some k → cs[o + j]? = some v → okK k v
  | [], o, l, h, _, j, k, v, hj, _ => by simp only [flatFs, Option.some.injEq] at h; subst h; simp at hj
  | f :: r, o, l, h, hf, j, k, v, hj, hv => by
    simp only [flatFs] at h
    split at h
    · rename_i ks l' h1 h2
      obtain ⟨ho, rfl⟩ := bif_some h
      have ho := Nat.eq_of_beq_eq_true ho
      obtain ⟨n, y, ht⟩ := hf f (by simp)
      obtain ⟨q1, q2⟩ := hrc _ _ _ _ _ h1 ht
      rw [ho] at q1 q2
      rcases Nat.lt_or_ge j ks.length with hlt | hge
      · rw [List.getElem?_append_left hlt] at hj
        refine q2 j k v hj ?_
        have hlt' : j < ((cs.drop o).take (P.cellsOf f.type)).length := by omega
        rw [List.length_take] at hlt'
        rw [List.getElem?_take_of_lt (by omega), List.getElem?_drop]; exact hv
      · rw [List.getElem?_append_right hge] at hj
        have hin : o + j < cs.length := (List.getElem?_eq_some_iff.1 hv).1
        have hle : ks.length = P.cellsOf f.type := by
          rw [List.length_take, List.length_drop] at q1; omega
        refine flatFs_ok hrc r _ _ h2 (fun g hg => hf g (by simp [hg])) (j - ks.length) k v hj ?_
        rw [← hv]; congr 1; omega
    · cases h

theorem repK_get (ks : List FK) : ∀ (m j : Nat) (k : FK), (repK ks m)[j]? = some k → ∃ i q, i < m ∧ j = i * ks.length + q ∧ q < ks.length ∧ ks[q]? = some k
  | 0, j, k, h => by simp [repK] at h
  | m + 1, j, k, h => by
    simp only [repK] at h
    rcases Nat.lt_or_ge j ks.length with hlt | hge
    · rw [List.getElem?_append_left hlt] at h
      exact ⟨0, j, by omega, by simp, hlt, h⟩
    · rw [List.getElem?_append_right hge] at h
      obtain ⟨i, q, h1, h2, h3, h4⟩ := repK_get ks m _ k h
      refine ⟨i + 1, q, by omega, ?_, h3, h4⟩
      rw [Nat.succ_mul]; omega
theorem repK_len (ks : List FK) : ∀ m, (repK ks m).length = m * ks.length
  | 0 => by simp [repK]
  | m + 1 => by simp only [repK, List.length_append, repK_len ks m, Nat.succ_mul]; omega

theorem flat_trod : ∀ (n : Nat) (t : TypeId) (ks : List FK) (cs : List Value) (fuel : Nat) (x : DataW H × List MemPlace), flatK P n t = some ks → DataW.trod enc P w base spare held fuel t cs = some x → OkL ks cs
  | 0, _, _, _, _, _, h, _ => by cases h
  | n + 1, t, ks, cs, fuel, x, h, ht => by
    simp only [flatK] at h
    split at h
    · rename_i k hu
      simp only [Option.some.injEq] at h; subst h
      obtain ⟨z, rfl, _, hw⟩ := DataW.trod_int hu ht
      refine ⟨rfl, fun j k' v h1 h2 => ?_⟩
      cases j with
      | zero => simp at h1 h2; subst h1; subst h2; exact ⟨z, rfl, hw⟩
      | succ j => simp at h1
    · rename_i hu
      simp only [Option.some.injEq] at h; subst h
      obtain ⟨z, rfl, _⟩ := DataW.trod_bool hu ht
      refine ⟨rfl, fun j k' v h1 h2 => ?_⟩
      cases j with
      | zero => simp at h1 h2; subst h1; subst h2; exact ⟨z, rfl⟩
      | succ j => simp at h1
    · rename_i fs hu
      split at h
      · rename_i l hl
        obtain ⟨hlen, rfl⟩ := bif_some h
        have hlen := Nat.eq_of_beq_eq_true hlen
        obtain ⟨ys, m, _, _, hy, hyl, hfl⟩ := DataW.trod_struct hu ht
        refine ⟨by omega, fun j k v h1 h2 => ?_⟩
        refine flatFs_ok (fun t ks cs fuel x => flat_trod n t ks cs fuel x) fs.toList 0 l hl (fun f hf => ?_) j k v h1 (by simpa using h2)
        obtain ⟨i, hi, e⟩ := List.mem_iff_getElem.1 hf
        have hi' : i < fs.size := by simpa using hi
        have e' : fs[i]? = some f := by rw [Array.getElem?_eq_getElem hi']; simpa using e
        have := hfl i f e'
        rw [List.getElem?_eq_getElem (by omega)] at this
        exact ⟨_, _, this⟩
      · cases h
    · rename_i m e hu
      split at h
      · rename_i ks' hk
        obtain ⟨hlen, rfl⟩ := bif_some h
        rw [Bool.and_eq_true] at hlen
        have hce := Nat.eq_of_beq_eq_true hlen.1
        have hlen := Nat.eq_of_beq_eq_true hlen.2
        rw [repK_len] at hlen
        cases fuel with
        | zero => simp [DataW.trod] at ht
        | succ fuel =>
          unfold DataW.trod at ht
          rw [hu] at ht
          simp only at ht
          split at ht
          · rename_i hcl
            obtain ⟨xs, hx, _⟩ := Option.map_eq_some_iff.1 ht
            have hm := mapM_some_length hx
            simp only [List.length_range] at hm
            have each : ∀ i, i < m → OkL ks' ((cs.drop (i * P.cellsOf e)).take (P.cellsOf e)) := fun i hi => by
              have := mapM_some_get hx i i (by simp [hi])
              rw [List.getElem?_eq_getElem (by omega)] at this
              exact flat_trod n e ks' _ _ _ hk this
            refine ⟨by rw [repK_len]; omega, fun j k v h1 h2 => ?_⟩
            obtain ⟨i, q, a1, a2, a3, a4⟩ := repK_get ks' m j k h1
            have hin : j < cs.length := (List.getElem?_eq_some_iff.1 h2).1
            obtain ⟨b1, b2⟩ := each i a1
            refine b2 q k v a4 ?_
            rw [List.getElem?_take_of_lt (by rw [hce]; exact a3), List.getElem?_drop, hce, ← a2]; exact h2
          · cases ht
      · cases h
    · cases h

theorem okK_one {k : FK} {v : Value} (h : okK k v) : v.oneCell' = true := by
  cases k with
  | int k => obtain ⟨z, rfl, _⟩ := h; rfl
  | bool => obtain ⟨b, rfl⟩ := h; rfl

/-- A slice of flat elements, as it comes in. -/
theorem open_flat_rows {W : World} {t e : TypeId} {cs : List Value} {fuel n0 : Nat} {x : DataW H × List MemPlace} {ks : List FK} (ht : P.underlying t = some (.slice e)) (hk : flatK P n0 e = some ks) (hC : P.cellsOf e = ks.length) (hpos : 0 < ks.length)
    (hd : DataW.trod enc P W 0 (fun _ => true) true fuel t cs = some x) :
    ∃ (v : Value) (n : Nat) (F : Nat → Nat → Value) (cap : Option Nat) (o : Option Loc), cs = [v] ∧ v.oneCell' = true ∧ n ≤ maxLen ∧ (∀ lc, o = some lc → lc.g < W.heap.size) ∧ (∀ i, i < n → ∀ j k, ks[j]? = some k → okK k (F i j)) ∧
      ∀ (ι : Lay) (b : Nat), ι b = o → rel ι (.sl b ks.length 0 n cap) v ∧ ∀ c : Nat → Nat → AV, (∀ i, i < n → ∀ j, j < ks.length → rel ι (c i j) (F i j)) → BR ι W b (.arr false e ks.length n c) := by
  rcases open_slice ht hd with ⟨rfl, hx⟩ | ⟨a, len, cap, m, n, D, Pl, rfl, _, hl, hm, hmm, hx, hi⟩
  · refine ⟨_, 0, fun _ _ => .bool false, some 0, none, rfl, rfl, Nat.zero_le _, fun lc h => (by cases h), fun i h => absurd h (by omega), fun ι b hb => ⟨?_, fun c _ => .inl ⟨rfl, hb⟩⟩⟩
    simp only [rel]
    exact ⟨none, 0, rfl, Nat.le_refl _, fun q hq => by simpa using hq, fun h => absurd h (by omega)⟩
  · simp only [if_true] at hmm
    subst hmm
    have key : ∀ i, i < m → ∀ j k, ks[j]? = some k → ∃ z, W.cell? (a.add (i * ks.length + j)) = some z ∧ okK k z := by
      intro i him j k hj
      obtain ⟨cs', hc, ht'⟩ := hi i him
      rw [hC] at hc
      obtain ⟨q1, q2⟩ := flat_trod n0 e ks cs' _ _ hk ht'
      obtain ⟨_, hcl, hat⟩ := World.cells?_some hc
      have hjl : j < ks.length := (List.getElem?_eq_some_iff.1 hj).1
      have hcell := hat j hjl
      have hz : cs'[j]? = some (cs'[j]'(by omega)) := List.getElem?_eq_getElem (by omega)
      refine ⟨cs'[j]'(by omega), ?_, q2 j k _ hj hz⟩
      rw [← Go.Deep.add_add, hcell, hz]
    have spot : 0 < m → a.spot = none ∧ a.block < W.heap.size := by
      intro hm0
      obtain ⟨z, hz, _⟩ := key 0 hm0 0 (ks[0]'hpos) (List.getElem?_eq_getElem hpos)
      have e0 : a.add (0 * ks.length + 0) = a := by simp [Addr.add]
      rw [e0] at hz
      unfold World.cell? at hz
      split at hz
      · rename_i c t' f' hh
        refine ⟨?_, (Array.getElem?_eq_some_iff.1 hh).1⟩
        cases hs : a.spot with
        | none => rfl
        | some q => simp [hs] at hz
      · cases hz
    refine ⟨_, len, fun i j => (W.cell? (a.add (i * ks.length + j))).getD (.bool false), some m, (if 0 < m then some ⟨a.block, a.off, m⟩ else none), rfl, rfl, Nat.le_trans hl hm, ?_, ?_, ?_⟩
    · intro lc h
      split at h
      · rename_i hm0
        simp only [Option.some.injEq] at h
        subst h
        exact (spot hm0).2
      · cases h
    · intro i hi' j k hj
      obtain ⟨z, h1, h2⟩ := key i (by omega) j k hj
      simp only [h1, Option.getD_some]; exact h2
    · intro ι b hb
      have haddr : 0 < m → some a = some (⟨a.block, a.off + 0 * ks.length, none⟩ : Addr) := by
        intro hm0
        obtain ⟨blk, off, sp⟩ := a
        simp only at spot
        rw [(spot hm0).1]; simp
      refine ⟨?_, fun c hc => ?_⟩
      · simp only [rel]
        refine ⟨some a, m, rfl, hl, fun q hq => by simpa using hq, fun hm0 => ?_⟩
        rw [if_pos hm0] at hb
        exact ⟨_, hb, haddr hm0, fun h => by cases h⟩
      · by_cases hm0 : 0 < m
        · rw [if_pos hm0] at hb
          refine .inr ⟨_, hb, hl, fun i hi' j hj => ?_, fun h => by cases h⟩
          obtain ⟨z, h1, h2⟩ := key i (by omega) j (ks[j]'hj) (List.getElem?_eq_getElem hj)
          refine ⟨z, ?_, okK_one h2, ?_⟩
          · rw [← h1]
            congr 1
            by_cases h0 : i * ks.length + j = 0
            · rw [h0]
              have := haddr hm0
              simp only [Option.some.injEq] at this
              simp only [Addr.add, if_true]
              rw [this]; simp
            · rw [Addr.add, if_neg h0]
          · have := hc i hi' j hj
            simpa only [h1, Option.getD_some] using this
        · rw [if_neg hm0] at hb
          exact .inl ⟨by omega, hb⟩

/-- Values that came in: 'os' says where their blocks lie, A what they are, where b is the number of the first one. -/
def OpA (W : World) (vs : List Value) (os : List (Option Loc)) (A : Nat → List AV) (B : List Blk) : Prop :=
  os.length = B.length ∧ (∀ k ∈ B, k.rw = false) ∧ (∀ o ∈ os, ∀ lc, o = some lc → lc.g < W.heap.size) ∧ ∀ (ι : Lay) (b : Nat), (∀ j o, os[j]? = some o → ι (b + j) = o) → relL ι (A b) vs ∧ ∀ j k, B[j]? = some k → BR ι W (b + j) k
/-- Cells. -/
def Opn (W : World) (us : List Value) (os : List (Option Loc)) (A : Nat → List AV) (B : List Blk) : Prop := OpA W us os A B ∧ ∀ u ∈ us, u.oneCell' = true

theorem relL_app {ι : Lay} : ∀ {a a' : List AV} {v v' : List Value}, relL ι a v → relL ι a' v' → relL ι (a ++ a') (v ++ v')
  | [], _, _, _, h, h' => by simp only [relL] at h; subst h; exact h'
  | x :: a, _, _, _, ⟨c, r, e, h1, h2⟩, h' => by subst e; exact ⟨c, _, rfl, h1, relL_app h2 h'⟩

theorem OpA.nil {W : World} : OpA W [] [] (fun _ => []) [] := ⟨rfl, by simp, by simp, fun _ _ _ => ⟨rfl, by simp⟩⟩
theorem OpA.app {W : World} {vs vs' : List Value} {os os' : List (Option Loc)} {A A' : Nat → List AV} {B B' : List Blk} (h : OpA W vs os A B) (h' : OpA W vs' os' A' B') :
    OpA W (vs ++ vs') (os ++ os') (fun b => A b ++ A' (b + os.length)) (B ++ B') := by
  obtain ⟨a1, a0, a2, a3⟩ := h
  obtain ⟨b1, b0, b2, b3⟩ := h'
  refine ⟨by simp [a1, b1], fun k hk => ?_, fun o ho => ?_, fun ι b hb => ?_⟩
  · rcases List.mem_append.1 hk with hk | hk
    · exact a0 k hk
    · exact b0 k hk
  · rcases List.mem_append.1 ho with ho | ho
    · exact a2 o ho
    · exact b2 o ho
  · have ha := a3 ι b fun j o hj => hb j o (by rw [List.getElem?_append_left (List.getElem?_eq_some_iff.1 hj).1]; exact hj)
    have hb' := b3 ι (b + os.length) fun j o hj => by
      have := hb (os.length + j) o (by rw [List.getElem?_append_right (by omega)]; simpa using hj)
      rw [← this]; congr 1; omega
    refine ⟨relL_app ha.1 hb'.1, fun j k hj => ?_⟩
    rcases Nat.lt_or_ge j B.length with hl | hl
    · rw [List.getElem?_append_left hl] at hj; exact ha.2 j k hj
    · rw [List.getElem?_append_right hl] at hj
      have := hb'.2 _ k hj
      rw [show b + os.length + (j - B.length) = b + j by omega] at this
      exact this
theorem Opn.app {W : World} {vs vs' : List Value} {os os' : List (Option Loc)} {A A' : Nat → List AV} {B B' : List Blk} (h : Opn W vs os A B) (h' : Opn W vs' os' A' B') :
    Opn W (vs ++ vs') (os ++ os') (fun b => A b ++ A' (b + os.length)) (B ++ B') :=
  ⟨h.1.app h'.1, fun u hu => (List.mem_append.1 hu).elim (h.2 u) (h'.2 u)⟩
theorem Opn.agg {W : World} {us : List Value} {os : List (Option Loc)} {A : Nat → List AV} {B : List Blk} (h : Opn W us os A B) : OpA W [.agg us.toArray] os (fun b => [.agg (A b)]) B :=
  ⟨h.1.1, h.1.2.1, h.1.2.2.1, fun ι b hb => ⟨⟨_, _, rfl, ⟨us, rfl, (h.1.2.2.2 ι b hb).1, h.2⟩, rfl⟩, (h.1.2.2.2 ι b hb).2⟩⟩

def layL (os : List (Option Loc)) : Lay := fun b => match os[b]? with
  | some o => o
  | none => none

theorem blL_get : ∀ (B : List Blk) (b : Nat), blL B b = (match B[b]? with | some k => k | none => .gone)
  | [], _ => rfl
  | _ :: _, 0 => rfl
  | _ :: r, b + 1 => blL_get r b
/-- From a contract of the law to a call. -/
theorem calls_of_opa {f : FuncId} {W : World} {args : Array Value} {os : List (Option Loc)} {A : Nat → List AV} {B Bl : List Blk} (ho : OpA W args.toList os A B) (h : Runs P f (A 0) B (Det (.sb true) Bl)) :
    Calls P f args W fun e W' => e = .returned (.bool true) ∧ Below W.heap.size W W' := by
  obtain ⟨h1, h2, h3, h4⟩ := ho
  obtain ⟨r1, r2⟩ := h4 (layL os) 0 (fun j o hj => by simp only [layL, Nat.zero_add, hj])
  have hbl := blL_get B
  refine calls_of_runs h (fun b => ?_) (layL os) (fun b hb => ?_) (fun b lc hb => ?_) (fun b => ?_) r1
  · rw [hbl]
    cases hb : B[b]? with
    | none => rfl
    | some k => exact h2 k (List.mem_of_getElem? hb)
  · simp only [layL]
    rw [List.getElem?_eq_none (by omega)]
  · simp only [layL] at hb
    cases ho : os[b]? with
    | none => rw [ho] at hb; cases hb
    | some o => rw [ho] at hb; exact h3 o (List.mem_of_getElem? ho) lc hb
  · rw [hbl]
    cases hb : B[b]? with
    | none => trivial
    | some k => have := r2 b k hb; rwa [Nat.zero_add] at this

/-- Flat cells. -/
theorem opn_flat {W : World} {us : List Value} {ks : List FK} {av : List AV} (h : OkL ks us) (hav : ∀ ι : Lay, relL ι av us) : Opn W us [] (fun _ => av) [] :=
  ⟨⟨rfl, by simp, by simp, fun ι _ _ => ⟨hav ι, by simp⟩⟩, fun u hu => by
    obtain ⟨j, hj, e⟩ := List.mem_iff_getElem.1 hu
    obtain ⟨h1, h2⟩ := h
    exact okK_one (h2 j (ks[j]'(by omega)) u (List.getElem?_eq_getElem (by omega)) (by rw [← e]; exact List.getElem?_eq_getElem hj))⟩
/-- A list of flat elements. -/
theorem opn_list {W : World} {α : Type} {cells : α → List AV} {d : α} {t e : TypeId} {cs : List Value} {fuel n0 : Nat} {x : DataW H × List MemPlace} {ks : List FK} (ht : P.underlying t = some (.slice e)) (hk : flatK P n0 e = some ks) (hC : P.cellsOf e = ks.length) (hpos : 0 < ks.length)
    (mk : (Nat → Value) → α) (hmk : ∀ F : Nat → Value, (∀ j k, ks[j]? = some k → okK k (F j)) → ∀ ι : Lay, ∀ j, j < ks.length → rel ι (nth (cells (mk F)) j) (F j))
    (hd : DataW.trod enc P W 0 (fun _ => true) true fuel t cs = some x) :
    ∃ (l : List α) (cap : Option Nat) (o : Option Loc), l.length ≤ maxLen ∧ (∀ a ∈ l, ∃ F : Nat → Value, (∀ j k, ks[j]? = some k → okK k (F j)) ∧ a = mk F) ∧
      Opn W cs [o] (fun b => [.sl b ks.length 0 l.length cap]) [.arr false e ks.length l.length (rowF cells d l)] := by
  obtain ⟨v, n, F, cap, o, rfl, h0, h1, h2, h3, h4⟩ := open_flat_rows ht hk hC hpos hd
  have hlen : ((List.range n).map fun i => mk (F i)).length = n := by simp
  refine ⟨(List.range n).map fun i => mk (F i), cap, o, by rw [hlen]; exact h1, fun a ha => ?_, ⟨rfl, ?_, ?_, fun ι b hb => ?_⟩, ?_⟩
  · obtain ⟨i, hi, rfl⟩ := List.mem_map.1 ha
    exact ⟨F i, h3 i (List.mem_range.1 hi), rfl⟩
  · intro k hk; simp at hk; subst hk; rfl
  · intro o' ho' lc hlc; simp at ho'; subst ho'; exact h2 lc hlc
  · have hb0 := hb 0 o rfl
    rw [Nat.add_zero] at hb0
    obtain ⟨q1, q2⟩ := h4 ι b hb0
    refine ⟨⟨v, [], rfl, by rw [hlen]; exact q1, rfl⟩, fun j k hj => ?_⟩
    cases j with
    | succ j => simp at hj
    | zero =>
      simp at hj; subst hj
      rw [Nat.add_zero]
      refine q2 _ fun i hi j hj => ?_
      have e' : ((List.range n).map fun i => mk (F i)).getD i d = mk (F i) := by
        simp [List.getD_eq_getElem?_getD, hi]
      show rel ι (nth (cells (((List.range n).map fun i => mk (F i)).getD i d)) j) (F i j)
      rw [e']
      exact hmk (F i) (h3 i hi) ι j hj
  · intro u hu; simp at hu; subst hu; exact h0
theorem opa_cells {W : World} {v : Value} {os : List (Option Loc)} {A : Nat → List AV} {B : List Blk} (h : Opn W v.cells.toList os A B) (hv : v.cells = #[v]) : OpA W [v] os A B := by
  rw [hv] at h; exact h.1
theorem opa_int {W : World} {k : IntKind} {z : Int} : OpA W [.int k z] [] (fun _ => [.val (.int k z)]) [] := ⟨rfl, by simp, by simp, fun _ _ _ => ⟨⟨_, _, rfl, rfl, rfl⟩, by simp⟩⟩
theorem opa_bool {W : World} {b : Bool} : OpA W [.bool b] [] (fun _ => [.val (.bool b)]) [] := ⟨rfl, by simp, by simp, fun _ _ _ => ⟨⟨_, _, rfl, rfl, rfl⟩, by simp⟩⟩
theorem OkL.cons {k : FK} {ks : List FK} {us : List Value} (h : OkL (k :: ks) us) : ∃ u r, us = u :: r ∧ okK k u ∧ OkL ks r := by
  obtain ⟨h1, h2⟩ := h
  match us, h1 with
  | u :: r, h1 =>
    refine ⟨u, r, rfl, h2 0 k u rfl rfl, by simpa using h1, fun j k v hj hv => h2 (j + 1) k v (by simpa using hj) (by simpa using hv)⟩
theorem OkL.nil {us : List Value} (h : OkL [] us) : us = [] := List.length_eq_zero_iff.1 h.1
theorem opa_flat {W : World} {cs : Array Value} {ks : List FK} {av : List AV} (h : OkL ks cs.toList) (hav : ∀ ι : Lay, relL ι av cs.toList) : OpA W [.agg cs] [] (fun _ => [.agg av]) [] := by
  have := (opn_flat (W := W) h hav).agg
  rwa [Array.toArray_toList] at this
end
end Go.Vx

/- Lemmas of a small executor for the model, and contracts of functions, used for the law that this claim proves. No condition. -/
import Derived.Below
import Derived.Orders
import Derived.Maps.AppendAt
import Derived.WalkKit
set_option linter.unusedSimpArgs false
set_option linter.unusedVariables false
/- The abstract state: values without addresses, blocks by number, and how they are read in a world. -/
namespace Go.Vx

/-- An abstract value. `dead`: nothing is known. `val`: the value itself. `sb`: a bool that is reckoned. `ptr b e i j`: the cell j of element i (of e cells each) of block b. `sl b e off len cap`: a slice of block b. -/
inductive AV where
  | dead
  | val (v : Value)
  | sb (b : Bool)
  | ptr (b e i j : Nat)
  | sl (b e off len : Nat) (cap : Option Nat)
  | fn (f : Fn) (caps : List AV)
  | agg (cs : List AV)
  | tup (vs : List AV)
  | map (b : Nat)
  deriving Inhabited

/-- Where a block lies: its number, the offset of its first cell, and how many elements there is room for. -/
structure Loc where
  g : Nat
  o : Nat
  n : Nat

abbrev Lay := Nat → Option Loc

mutual
def rel (ι : Lay) : AV → Value → Prop
  | .dead, _ => True
  | .val v, c => c = v
  | .sb b, c => c = .bool b
  | .ptr b e i j, c => ∃ l, ι b = some l ∧ c = .pointer (some ⟨l.g, l.o + (i * e + j), none⟩)
  | .sl b e off len cap, c => ∃ a k, c = .slice a len k ∧ len ≤ k ∧ (∀ m, cap = some m → k = m) ∧
      (0 < k → ∃ l, ι b = some l ∧ a = some ⟨l.g, l.o + off * e, none⟩ ∧ (cap = none → off + k = l.n))
  | .fn f caps, c => ∃ cs, c = .func f #[] cs.toArray ∧ relL ι caps cs
  | .agg vs, c => ∃ cs, c = .agg cs.toArray ∧ relL ι vs cs ∧ ∀ u ∈ cs, u.oneCell' = true
  | .tup vs, c => ∃ cs, c = .tuple cs.toArray ∧ relL ι vs cs
  | .map b, c => ∃ l, ι b = some l ∧ c = .map (some l.g)
def relL (ι : Lay) : List AV → List Value → Prop
  | [], cs => cs = []
  | v :: vs, cs => ∃ c r, cs = c :: r ∧ rel ι v c ∧ relL ι vs r
end

def range' : Nat → Nat → List Nat
  | 0, _ => []
  | n + 1, i => i :: range' n (i + 1)
def mkAgg (agg : Bool) (cs : List AV) : AV := match agg with | true => .agg cs | false => cs.headD .dead

/-- `map`: the keys (each a list of ints: `ka = none` one int, `some n` a struct or an array of n ints), in the order of their entries, and each key's value. -/
inductive Blk where
  | gone
  | var (cs : List AV)
  | arr (rw : Bool) (t e n : Nat) (c : Nat → Nat → AV)
  | map (ka : Option Nat) (ks : List (List Int)) (c : List Int → AV)

def keyV (ka : Option Nat) (k : List Int) : Value := match ka with
  | none => .int .i64 (k.headD 0)
  | some _ => .agg (k.map (Value.int .i64)).toArray
/-- The entries of a map. -/
structure MapR (ι : Lay) (ka : Option Nat) (ks : List (List Int)) (c : List Int → AV) (es : List MapEntry) : Prop where
  keys : es.map (·.key) = ks.map (keyV ka)
  len : ∀ k ∈ ks, k.length = ka.getD 1
  nodup : ks.Nodup
  vals : ∀ (i : Nat) (k : List Int) (e : MapEntry), ks[i]? = some k → es[i]? = some e → rel ι (c k) e.val

def Blk.rw : Blk → Bool
  | .gone => false
  | .var _ => true
  | .arr r .. => r
  | .map .. => true
def Blk.live : Blk → Bool
  | .gone => false
  | _ => true

theorem rw_live {k : Blk} (h : k.rw = true) : k.live = true := by cases k <;> first | rfl | cases h

/-- A block as it stands in a world. -/
def BR (ι : Lay) (w : World) (b : Nat) : Blk → Prop
  | .gone => True
  | .var cs => ∃ (l : Loc) (C : Array Value) (t : TypeId), ι b = some l ∧ (l.o = 0 ∧ 1 ≤ l.n) ∧ w.heap[l.g]? = some (.cells C t (0, 0)) ∧
      ∀ (j : Nat) (v : AV), cs[j]? = some v → ∃ c, C[j]? = some c ∧ c.oneCell' = true ∧ rel ι v c
  | .arr rw t e n c => (n = 0 ∧ ι b = none) ∨ ∃ l, ι b = some l ∧ n ≤ l.n ∧
      (∀ i, i < n → ∀ j, j < e → ∃ cv, w.cell? ⟨l.g, l.o + (i * e + j), none⟩ = some cv ∧ cv.oneCell' = true ∧ rel ι (c i j) cv) ∧
      (rw = true → l.o = 0 ∧ l.n ≤ maxLen ∧ ∃ C : Array Value, w.heap[l.g]? = some (.cells C t (0, 0)) ∧ C.size = l.n * e)
  | .map ka ks c => ∃ (l : Loc) (es : Array MapEntry) (clock : Nat), ι b = some l ∧ w.heap[l.g]? = some (.map es clock) ∧ MapR ι ka ks c es.toList

/-- What a piece of code may write: the world at its beginning, and the blocks of that world that it may write. -/
structure Amb where
  w0 : World
  G : Nat → Prop

structure Keeps (G : Nat → Prop) (w w' : World) : Prop where
  os : w'.os = w.os
  tape : w'.tape = w.tape
  output : w'.output = w.output
  size : w.heap.size ≤ w'.heap.size
  block : ∀ g, g < w.heap.size → ¬ G g → w'.heap[g]? = w.heap[g]?

theorem Keeps.refl (G : Nat → Prop) (w : World) : Keeps G w w := ⟨rfl, rfl, rfl, Nat.le_refl _, fun _ _ _ => rfl⟩
theorem Keeps.trans {G G' : Nat → Prop} {a b c : World} (h : Keeps G a b) (k : Keeps G' b c) (hG : ∀ g, g < a.heap.size → G' g → G g) : Keeps G a c :=
  ⟨k.os.trans h.os, k.tape.trans h.tape, k.output.trans h.output, Nat.le_trans h.size k.size, fun g hg hn =>
    (k.block g (Nat.lt_of_lt_of_le hg h.size) (fun hh => hn (hG g hg hh))).trans (h.block g hg hn)⟩

structure WR (E : Amb) (ι : Lay) (bs : Nat → Blk) (w : World) : Prop where
  br : ∀ b, BR ι w b (bs b)
  sep : ∀ b b' l l', b ≠ b' → (bs b).rw = true → (bs b').live = true → ι b = some l → ι b' = some l' → l.g ≠ l'.g
  lt : ∀ b l, ι b = some l → l.g < w.heap.size
  amb : Keeps E.G E.w0 w
  own : ∀ b l, (bs b).rw = true → ι b = some l → E.G l.g ∨ E.w0.heap.size ≤ l.g

/-- ι' is ι, with more blocks. -/
def Ext (ι ι' : Lay) : Prop := ∀ b l, ι b = some l → ι' b = some l
theorem Ext.refl (ι : Lay) : Ext ι ι := fun _ _ h => h
theorem Ext.trans {a b c : Lay} (h : Ext a b) (k : Ext b c) : Ext a c := fun x l e => k x l (h x l e)

mutual
theorem rel_ext {ι ι' : Lay} (h : Ext ι ι') : ∀ (v : AV) (c : Value), rel ι v c → rel ι' v c
  | .dead, _ => by simp [rel]
  | .val v, c => by simp [rel]
  | .sb b, c => by simp [rel]
  | .ptr b e i j, c => by simp only [rel]; rintro ⟨l, hl, e⟩; exact ⟨l, h _ _ hl, e⟩
  | .sl b e off len cap, c => by
    simp only [rel]
    rintro ⟨a, k, e1, h1, h2, h3⟩
    refine ⟨a, k, e1, h1, h2, fun hk => ?_⟩
    obtain ⟨l, hl, r⟩ := h3 hk
    exact ⟨l, h _ _ hl, r⟩
  | .fn f caps, c => by
    simp only [rel]
    rintro ⟨cs, e, h1⟩
    exact ⟨cs, e, relL_ext h caps cs h1⟩
  | .agg vs, c => by
    simp only [rel]
    rintro ⟨cs, e, h1, h2⟩
    exact ⟨cs, e, relL_ext h vs cs h1, h2⟩
  | .tup vs, c => by
    simp only [rel]
    rintro ⟨cs, e, h1⟩
    exact ⟨cs, e, relL_ext h vs cs h1⟩
  | .map b, c => by simp only [rel]; rintro ⟨l, hl, e⟩; exact ⟨l, h _ _ hl, e⟩
theorem relL_ext {ι ι' : Lay} (h : Ext ι ι') : ∀ (vs : List AV) (cs : List Value), relL ι vs cs → relL ι' vs cs
  | [], cs => by simp [relL]
  | v :: vs, cs => by
    simp only [relL]
    rintro ⟨c, r, e, h1, h2⟩
    exact ⟨c, r, e, rel_ext h v c h1, relL_ext h vs r h2⟩
end

theorem BR_ext {ι ι' : Lay} {w : World} {b : Nat} {k : Blk} (h : Ext ι ι') (hb : ι b = none → ι' b = none) (hr : BR ι w b k) : BR ι' w b k := by
  cases k with
  | gone => exact hr
  | var cs =>
    obtain ⟨l, C, t, h1, h2, h3, h4⟩ := hr
    refine ⟨l, C, t, h _ _ h1, h2, h3, fun j v hj => ?_⟩
    obtain ⟨c, a1, a2, a3⟩ := h4 j v hj
    exact ⟨c, a1, a2, rel_ext h v c a3⟩
  | arr rw t e n c =>
    rcases hr with ⟨h1, h2⟩ | ⟨l, h1, h2, h3, h4⟩
    · exact .inl ⟨h1, hb h2⟩
    · refine .inr ⟨l, h _ _ h1, h2, fun i hi j hj => ?_, h4⟩
      obtain ⟨cv, a1, a2, a3⟩ := h3 i hi j hj
      exact ⟨cv, a1, a2, rel_ext h _ _ a3⟩
  | map ka ks c =>
    obtain ⟨l, es, clock, h1, h2, h3⟩ := hr
    exact ⟨l, es, clock, h _ _ h1, h2, h3.keys, h3.len, h3.nodup, fun i k e a1 a2 => rel_ext h _ _ (h3.vals i k e a1 a2)⟩

/-- A block is as it was where the world's block is as it was. -/
theorem BR_same {ι : Lay} {w w' : World} {b : Nat} {k : Blk} (h : ∀ l, ι b = some l → w'.heap[l.g]? = w.heap[l.g]?) (hr : BR ι w b k) : BR ι w' b k := by
  cases k with
  | gone => exact hr
  | var cs =>
    obtain ⟨l, C, t, h1, h2, h3, h4⟩ := hr
    exact ⟨l, C, t, h1, h2, (h l h1).trans h3, h4⟩
  | arr rw t e n c =>
    rcases hr with ⟨h1, h2⟩ | ⟨l, h1, h2, h3, h4⟩
    · exact .inl ⟨h1, h2⟩
    · have hs := h l h1
      refine .inr ⟨l, h1, h2, fun i hi j hj => ?_, fun hrw => ?_⟩
      · obtain ⟨cv, a1, a2⟩ := h3 i hi j hj
        exact ⟨cv, (World.cell?_of_block hs).trans a1, a2⟩
      · obtain ⟨q1, q2, C, q3, q4⟩ := h4 hrw
        exact ⟨q1, q2, C, hs.trans q3, q4⟩
  | map ka ks c =>
    obtain ⟨l, es, clock, h1, h2, h3⟩ := hr
    exact ⟨l, es, clock, h1, (h l h1).trans h2, h3⟩

/-- The blocks behind updates. -/
def updL (bs : Nat → Blk) : List (Nat × Blk) → Nat → Blk
  | [] => bs
  | (b, k) :: r => fun x => bif Nat.beq x b then k else updL bs r x

theorem updL_cons_same (bs : Nat → Blk) (b : Nat) (k : Blk) (r) : updL bs ((b, k) :: r) b = k := by simp [updL]
theorem updL_cons_ne (bs : Nat → Blk) (b : Nat) (k : Blk) (r) {x : Nat} (h : x ≠ b) : updL bs ((b, k) :: r) x = updL bs r x := by
  have : Nat.beq x b = false := by
    cases hb : Nat.beq x b
    · rfl
    · exact absurd (Nat.eq_of_beq_eq_true hb) h
  simp [updL, this]

theorem updL_cases (bs : Nat → Blk) : ∀ (up : List (Nat × Blk)) (x : Nat), (∃ k, (x, k) ∈ up ∧ updL bs up x = k) ∨ ((∀ k, (x, k) ∉ up) ∧ updL bs up x = bs x)
  | [], x => .inr ⟨by simp, rfl⟩
  | (b, k) :: r, x => by
    by_cases h : x = b
    · subst h; exact .inl ⟨k, by simp, updL_cons_same _ _ _ _⟩
    · rw [updL_cons_ne _ _ _ _ h]
      rcases updL_cases bs r x with ⟨k', h1, h2⟩ | ⟨h1, h2⟩
      · exact .inl ⟨k', by simp [h1], h2⟩
      · exact .inr ⟨fun k' hk => by simp at hk; rcases hk with ⟨e, _⟩ | hk; exact h e; exact h1 k' hk, h2⟩

/-- What one operation does to the blocks: 'up' are the blocks that it turns or makes; the new ones bear numbers from f to f'. -/
structure Delta (ι : Lay) (bs : Nat → Blk) (f f' : Nat) (w : World) (ι' : Lay) (up : List (Nat × Blk)) (w' : World) : Prop where
  ext : ∀ b, b < f ∨ f' ≤ b → ι' b = ι b
  br : ∀ b, (∃ k, (b, k) ∈ up) → BR ι' w' b (updL bs up b)
  os : w'.os = w.os
  tape : w'.tape = w.tape
  output : w'.output = w.output
  size : w.heap.size ≤ w'.heap.size
  keep : ∀ g, g < w.heap.size → (∀ b k l, (b, k) ∈ up → (bs b).rw = true → ι b = some l → l.g ≠ g) → w'.heap[g]? = w.heap[g]?
  lt : ∀ b l, f ≤ b → b < f' → ι' b = some l → l.g < w'.heap.size
  fresh : ∀ b l, f ≤ b → b < f' → (updL bs up b).live = true → ι' b = some l → w.heap.size ≤ l.g ∨
    ∃ b0 l0, (b0, Blk.gone) ∈ up ∧ updL bs up b0 = .gone ∧ (bs b0).rw = true ∧ ι b0 = some l0 ∧ l0.g = l.g
  one : ∀ b b' l l', f ≤ b → b < f' → f ≤ b' → b' < f' → b ≠ b' → (updL bs up b).rw = true → (updL bs up b').live = true → ι' b = some l → ι' b' = some l' → l.g ≠ l'.g
  rwn : ∀ b k, (b, k) ∈ up → k.live = true → k.rw = true
  upr : ∀ b k, (b, k) ∈ up → (f ≤ b ∧ b < f') ∨ (bs b).rw = true

theorem Delta.wr {E : Amb} {ι : Lay} {bs : Nat → Blk} {f f' : Nat} {w : World} {ι' : Lay} {up : List (Nat × Blk)} {w' : World}
    (hd : Delta ι bs f f' w ι' up w') (hn : ∀ b, f ≤ b → b < f' → ι b = none ∧ bs b = .gone) (hw : WR E ι bs w) : Ext ι ι' ∧ WR E ι' (updL bs up) w' := by
  have hext : Ext ι ι' := fun b l hl => by
    by_cases hb : b < f ∨ f' ≤ b
    · rw [hd.ext b hb]; exact hl
    · have := (hn b (by omega) (by omega)).1; rw [this] at hl; cases hl
  have old : ∀ b l, b < f ∨ f' ≤ b → ι' b = some l → ι b = some l := fun b l hb h => by rw [hd.ext b hb] at h; exact h
  have slot : ∀ b, (f ≤ b ∧ b < f') ∨ (b < f ∨ f' ≤ b) := fun b => by omega
  -- a live block of the new state: either made or turned by this step, or an old one
  have rwold : ∀ b, (updL bs up b).rw = true → (b < f ∨ f' ≤ b) → (bs b).rw = true := by
    intro b h hb
    rcases updL_cases bs up b with ⟨k, h1, h2⟩ | ⟨_, h2⟩
    · rcases hd.upr b k h1 with h3 | h3
      · omega
      · exact h3
    · rw [h2] at h; exact h
  have liveold : ∀ b, (updL bs up b).live = true → (b < f ∨ f' ≤ b) → (bs b).live = true := by
    intro b h hb
    rcases updL_cases bs up b with ⟨k, h1, h2⟩ | ⟨_, h2⟩
    · rcases hd.upr b k h1 with h3 | h3
      · omega
      · cases hbb : bs b <;> simp_all [Blk.rw, Blk.live]
    · rw [h2] at h; exact h
  refine ⟨hext, ⟨fun b => ?_, ?_, ?_, ?_, ?_⟩⟩
  · rcases updL_cases bs up b with ⟨k, h1, h2⟩ | ⟨h1, h2⟩
    · exact hd.br b ⟨k, h1⟩
    · rw [h2]
      rcases slot b with hs | hs
      · rw [(hn b hs.1 hs.2).2]; trivial
      · by_cases hl : (bs b).live = true
        · refine BR_ext hext (fun h => by rw [hd.ext b hs]; exact h) (BR_same (fun l hl' => ?_) (hw.br b))
          refine hd.keep l.g (hw.lt b l hl') fun b1 k1 l1 hm hr hl1 => ?_
          exact hw.sep b1 b l1 l (fun e => h1 k1 (e ▸ hm)) hr hl hl1 hl'
        · cases hb : bs b <;> simp_all [Blk.live, BR]
  · intro b b' l l' hne hr hl hl1 hl2
    rcases slot b with hs | hs <;> rcases slot b' with hs' | hs'
    · exact hd.one b b' l l' hs.1 hs.2 hs'.1 hs'.2 hne hr hl hl1 hl2
    · have h2 := old b' l' hs' hl2
      rcases hd.fresh b l hs.1 hs.2 (rw_live hr) hl1 with hf | ⟨b0, l0, h3, h4, h5, h6, h7⟩
      · have := hw.lt b' l' h2; omega
      · rw [← h7]
        refine hw.sep b0 b' l0 l' (fun e => ?_) h5 (liveold b' hl hs') h6 h2
        subst e; rw [h4] at hl; simp [Blk.live] at hl
    · have h2 := old b l hs hl1
      rcases hd.fresh b' l' hs'.1 hs'.2 hl hl2 with hf | ⟨b0, l0, h3, h4, h5, h6, h7⟩
      · have := hw.lt b l h2; omega
      · rw [← h7]
        intro e
        have hb0 : b0 ≠ b := fun e => by subst e; rw [h4] at hr; simp [Blk.rw] at hr
        have hb0o : (bs b).live = true := by have := rwold b hr hs; cases hbb : bs b <;> simp_all [Blk.rw, Blk.live]
        exact hw.sep b0 b l0 l hb0 h5 hb0o h6 h2 e.symm
    · exact hw.sep b b' l l' hne (rwold b hr hs) (liveold b' hl hs') (old b l hs hl1) (old b' l' hs' hl2)
  · intro b l hl
    rcases slot b with hs | hs
    · exact hd.lt b l hs.1 hs.2 hl
    · exact Nat.lt_of_lt_of_le (hw.lt b l (old b l hs hl)) hd.size
  · refine ⟨hd.os.trans hw.amb.os, hd.tape.trans hw.amb.tape, hd.output.trans hw.amb.output, Nat.le_trans hw.amb.size hd.size, fun g hg hG => ?_⟩
    rw [← hw.amb.block g hg hG]
    refine hd.keep g (Nat.lt_of_lt_of_le hg hw.amb.size) fun b k l hm hr hl e => ?_
    rcases hw.own b l hr hl with h | h
    · exact hG (e ▸ h)
    · omega
  · intro b l hr hl
    rcases slot b with hs | hs
    · rcases hd.fresh b l hs.1 hs.2 (rw_live hr) hl with hf | ⟨b0, l0, h3, h4, h5, h6, h7⟩
      · exact .inr (Nat.le_trans hw.amb.size hf)
      · rw [← h7]; exact hw.own b0 l0 h5 h6
    · exact hw.own b l (rwold b hr hs) (old b l hs hl)

end Go.Vx

/- Lemmas of a small executor for the model, and contracts of functions, used for the law that this claim proves. No condition. -/
import Derived.Below
import Derived.Orders
import Derived.Maps.AppendAt
import Derived.WalkKit
import Derived.MapKept
import Derived.Laws.MakeOwn
import Derived.ChangeKeysEq
import Derived.Laws.StructEq
import Derived.Maps.RangeRun
set_option linter.unusedSimpArgs false
set_option linter.unusedVariables false
namespace Go.Vx
def c10 : Nat -> List Int
 | 1 => [0, 1, 1, 1, 1, 1, 1, 1, 1, 1, 0, 4, 2, 3, 4, 5, 6, 7, 8, 9, 0, 2, 2, 3, 2, 2, 2, 2, 2, 2, 0, 1, 1, 3, 4, 5, 6, 7, 8, 9, 0, 3, 3, 3, 3, 3, 3, 3, 3, 3, 0, 1, 2, 1, 4, 5, 6, 7, 8, 9, 0, 1, 2, 3, 6, 5, 6, 6, 6, 6, 0, 1, 2, 3, 4, 6, 6, 7, 8, 9, 0, 1, 2, 3, 4, 5, 6, 7, 9, 9, 0, 1, 2, 3, 4, 5, 6, 7, 8, 8, 0, 1, 2, 3, 4, 5, 6, 7, 8, 9, 0, 1, 2, 3, 5, 5, 6, 5, 5, 5, 0, 1, 2, 3, 5, 5, 6, 5, 5, 5, 0, 1, 2, 3, 5, 5, 6, 5, 5, 5, 0, 1, 2, 3, 7, 7, 7, 7, 7, 7, 0, 1, 2, 3, 7, 7, 7, 7, 7, 7, 0, 1, 2, 3, 8, 8, 8, 8, 8, 8]
 | 0 => [0, 1, 2, 3, 4, 5, 6, 7, 8, 9, 10, 7, 10, 8]
 | _ => []
def c85 : Nat -> Bool
 | _ => false
end Go.Vx
namespace Go.Vx
inductive AV where
 | dead
 | val (v : Value)
 | sb (b : Bool)
 | ptr (b e i j : Nat)
 | sl (b e off len : Nat) (cap : Option Nat)
 | fn (f : Fn) (caps : List AV)
 | bfn (f : Fn) (first caps : List AV)
 | agg (cs : List AV)
 | tup (vs : List AV)
 | map (b : Nat)
 | rsl (y i e len : Nat) (h : Value)
 | rptr (y i e x j : Nat) (h : Value)
 | ifc (t : TypeId) (v : AV)
 deriving Inhabited
structure Loc where
 g : Nat
 o : Nat
 n : Nat
abbrev Lay := Nat -> Option Loc
mutual
def rel (ι : Lay) : AV -> Value -> Prop
 | .dead, _ => True
 | .val v, c => c = v
 | .sb b, c => c = .bool b
 | .ptr b e i j, c => ∃ l, ι b = some l /\ c = .pointer (some ⟨l.g, l.o + (i * e + j), none⟩)
 | .sl b e off len cap, c => ∃ a k, c = .slice a len k /\ len <= k /\ (∀ m, cap = some m -> k = m) /\
   (0 < k -> ∃ l, ι b = some l /\ a = some ⟨l.g, l.o + off * e, none⟩ /\ (cap = none -> off + k = l.n))
 | .fn f caps, c => ∃ cs, c = .func f #[] cs.toArray /\ relL ι caps cs
 | .bfn f first caps, c => ∃ fs cs, c = .func f fs.toArray cs.toArray /\ relL ι first fs /\ relL ι caps cs
 | .agg vs, c => ∃ cs, c = .agg cs.toArray /\ relL ι vs cs /\ ∀ u ∈ cs, u.oneCell' = true
 | .tup vs, c => ∃ cs, c = .tuple cs.toArray /\ relL ι vs cs
 | .map b, c => ∃ l, ι b = some l /\ c = .map (some l.g)
 | .rsl _ _ _ len h, c => c = h /\ ∃ a k, h = .slice a len k /\ len <= k /\ (0 < k -> ∃ g p, a = some ⟨g, p, none⟩)
 | .rptr _ _ e x j h, c => ∃ g p len k, h = .slice (some ⟨g, p, none⟩) len k /\ c = .pointer (some ⟨g, p + (x * e + j), none⟩)
 | .ifc t v, c => ∃ u, c = .iface t u /\ rel ι v u
def relL (ι : Lay) : List AV -> List Value -> Prop
 | [], cs => cs = []
 | v :: vs, cs => ∃ c r, cs = c :: r /\ rel ι v c /\ relL ι vs r
end
def range' : Nat -> Nat -> List Nat
 | 0, _ => []
 | n + 1, i => i :: range' n (i + 1)
def a9b (agg : Bool) (cs : List AV) : AV := match agg with | true => .agg cs | false => cs.headD .dead
structure OP where
 P : World -> Loc -> (Nat -> Prop) -> Prop
 loc : ∀ (w w' : World) (g : Loc) (fp : Nat -> Prop), P w g fp -> (∀ x, fp x -> w'.heap[x]? = w.heap[x]?) -> P w' g fp
 prec : ∀ (w : World) (g g' : Loc) (fp fp' : Nat -> Prop), P w g fp -> P w g' fp' -> g.g = g'.g -> ∀ x, fp x -> fp' x
 size : ∀ (w : World) (g : Loc) (fp : Nat -> Prop), P w g fp -> ∀ x, fp x -> x < w.heap.size
inductive Blk where
 | gone
 | var (cs : List AV)
 | arr (rw : Bool) (t e n : Nat) (c : Nat -> Nat -> AV)
 | map (ka : Option Nat) (ks : List (List Int)) (c : List Int -> AV)
 | mapg (ka : Option Nat) (ks : List (List Int)) (c : List Int -> AV) (es : Array MapEntry) (clock : Nat)
 | iter (m : Nat) (ka : Option Nat) (es : Array MapEntry) (clock : Nat) (S : List (List Int)) (last : Option (List Int))
 | fam (rw : Bool) (t te e n : Nat) (r : Nat -> Nat × (Nat -> Nat -> AV)) (o : Option Nat) (y : Nat)
 | row (b i : Nat)
 | rows (rw : Bool) (e n : Nat) (hd : Nat -> Value) (r : Nat -> Nat × (Nat -> Nat -> Int))
 | obj (o : OP)
def a3c (ka : Option Nat) (k : List Int) : Value := match ka with
 | none => .int .i64 (k.headD 0)
 | some _ => .agg (k.map (Value.int .i64)).toArray
structure MapR (ι : Lay) (ka : Option Nat) (ks : List (List Int)) (c : List Int -> AV) (es : List MapEntry) : Prop where
 keys : es.map (·.key) = ks.map (a3c ka)
 len : ∀ k ∈ ks, k.length = ka.getD 1
 nodup : ks.Nodup
 vals : ∀ (i : Nat) (k : List Int) (e : MapEntry), ks[i]? = some k -> es[i]? = some e -> rel ι (c k) e.val
structure IterR (ka : Option Nat) (es : Array MapEntry) (S : List (List Int)) (last : Option (List Int)) (seen : Array Nat) : Prop where
 seen_iff : ∀ x ∈ es.toList, (x.born ∈ seen.toList ↔ ∃ k ∈ S, x.key = a3c ka k)
 last_is : ∀ k, last = some k -> ∃ (e : MapEntry) (seen' : Array Nat), e ∈ es.toList /\ e.key = a3c ka k /\ seen = seen'.push e.born /\ k.length = ka.getD 1
 len : ∀ k ∈ S, k.length = ka.getD 1
def Blk.asMap : Blk -> Option (Option Nat × List (List Int) × (List Int -> AV))
 | .map ka ks c => some (ka, ks, c)
 | .mapg ka ks c _ _ => some (ka, ks, c)
 | _ => none
def Blk.rw : Blk -> Bool
 | .gone => false
 | .var _ => true
 | .arr r .. => r
 | .map .. => true
 | .mapg .. => true
 | .iter .. => true
 | .fam r .. => r
 | .row .. => false
 | .rows r .. => r
 | .obj _ => true
def Blk.live : Blk -> Bool
 | .gone => false
 | .row .. => false
 | _ => true
def Blk.plain : Blk -> Bool
 | .fam .. => false
 | .row .. => false
 | .rows .. => false
 | .obj _ => false
 | _ => true
def Blk.flat : Blk -> Bool
 | .fam .. => false
 | .row .. => false
 | _ => true
theorem a6u {k : Blk} (h : k.plain = true) : k.flat = true := by cases k <;> first | rfl | cases h
theorem a1p {k : Blk} (h : k.rw = true) : k.live = true := by cases k <;> first | rfl | cases h
def c95 (ι : Lay) (w : World) (l : Loc) (rw : Bool) (te e i : Nat) (ro : Nat × (Nat -> Nat -> AV)) : Prop :=
 ∃ (a : Option Addr) (k : Nat), w.cell? ⟨l.g, l.o + i, none⟩ = some (.slice a ro.1 k) /\ ro.1 <= k /\ (0 < k -> ∃ g p, a = some ⟨g, p, none⟩ /\ g < w.heap.size /\
  (∀ x, x < ro.1 -> ∀ j, j < e -> ∃ cv, w.cell? ⟨g, p + (x * e + j), none⟩ = some cv /\ cv.oneCell' = true /\ rel ι (ro.2 x j) cv) /\
  (rw = true -> k <= maxLen /\ ∃ (C : Array Value) (q : Nat), p = q * e /\ w.heap[g]? = some (.cells C te (0, 0)) /\ C.size = (q + k) * e))
def c91 (ι : Lay) (w : World) (l : Loc) (i y m : Nat) : Prop :=
 ∃ (a : Option Addr) (k : Nat), w.cell? ⟨l.g, l.o + i, none⟩ = some (.slice a m k) /\ m <= k /\ (0 < k -> ∃ ly, ι y = some ly /\ a = some ⟨ly.g, ly.o, none⟩ /\ ly.n = k)
def a5n (w : World) (l : Loc) (i g : Nat) : Prop := ∃ p m k, w.cell? ⟨l.g, l.o + i, none⟩ = some (.slice (some ⟨g, p, none⟩) m k) /\ 0 < k
def c9y (w : World) (e : Nat) (h : Value) (ro : Nat × (Nat -> Nat -> Int)) : Prop :=
 ∃ (a : Option Addr) (k : Nat), h = .slice a ro.1 k /\ ro.1 <= k /\ (0 < k -> ∃ g p, a = some ⟨g, p, none⟩ /\ g < w.heap.size /\
  ∀ x, x < ro.1 -> ∀ j, j < e -> w.cell? ⟨g, p + (x * e + j), none⟩ = some (.int .i64 (ro.2 x j)))
def HdG (h : Value) (g : Nat) : Prop := ∃ p m k, h = .slice (some ⟨g, p, none⟩) m k /\ 0 < k
def BR (ι : Lay) (w : World) (b : Nat) : Blk -> Prop
 | .gone => True
 | .var cs => ∃ (l : Loc) (C : Array Value) (t : TypeId), ι b = some l /\ (l.o = 0 /\ 1 <= l.n) /\ w.heap[l.g]? = some (.cells C t (0, 0)) /\
   ∀ (j : Nat) (v : AV), cs[j]? = some v -> ∃ c, C[j]? = some c /\ c.oneCell' = true /\ rel ι v c
 | .arr rw t e n c => (n = 0 /\ ι b = none) \/ ∃ l, ι b = some l /\ n <= l.n /\
   (∀ i, i < n -> ∀ j, j < e -> ∃ cv, w.cell? ⟨l.g, l.o + (i * e + j), none⟩ = some cv /\ cv.oneCell' = true /\ rel ι (c i j) cv) /\
   (rw = true -> l.n <= maxLen /\ ∃ (C : Array Value) (q : Nat), l.o = q * e /\ w.heap[l.g]? = some (.cells C t (0, 0)) /\ C.size = (q + l.n) * e)
 | .map ka ks c => ∃ (l : Loc) (es : Array MapEntry) (clock : Nat), ι b = some l /\ w.heap[l.g]? = some (.map es clock) /\ MapR ι ka ks c es.toList /\ MapKept.Stamped es clock
 | .mapg ka ks c es clock => ∃ (l : Loc), ι b = some l /\ w.heap[l.g]? = some (.map es clock) /\ MapR ι ka ks c es.toList /\ MapKept.Stamped es clock
 | .iter m ka es clock S last => ∃ (l lm : Loc) (seen : Array Nat), (ι b = some l /\ l.o = 0) /\ ι m = some lm /\ w.heap[l.g]? = some (.mapIter (some lm.g) clock seen clock) /\ IterR ka es S last seen
 | .fam rw t te e n r o y => (n = 0 /\ ι b = none /\ o = none) \/ ∃ l, ι b = some l /\ n <= l.n /\ ((∀ i, i < n -> o ≠ some i -> c95 ι w l rw te e i (r i)) /\ ∀ i, i < n -> o = some i -> c91 ι w l i y (r i).1) /\
   (rw = true -> l.n <= maxLen /\ (∃ C : Array Value, w.heap[l.g]? = some (.cells C t (0, 0)) /\ C.size = l.o + l.n) /\
    ∀ i g, i < n -> o ≠ some i -> a5n w l i g -> l.g ≠ g /\ ∀ i', i' < n -> o ≠ some i' -> i' ≠ i -> ¬ a5n w l i' g)
 | .row _ _ => True
 | .rows _ e n hd r => (n = 0 /\ ι b = none) \/ ∃ l, ι b = some l /\ ∀ i, i < n -> c9y w e (hd i) (r i)
 | .obj o => ∃ l, ι b = some l /\ (l.o = 0 /\ 1 <= l.n) /\ ∃ fp, o.P w l fp
def foot (ι : Lay) (w : World) (b : Nat) (k : Blk) (g : Nat) : Prop :=
 ∃ l, ι b = some l /\ (l.g = g \/ match k with
  | .fam _ _ _ _ n _ o _ => ∃ i, i < n /\ o ≠ some i /\ a5n w l i g
  | .rows _ _ n hd _ => ∃ i, i < n /\ HdG (hd i) g
  | .obj o => ∃ fp, o.P w l fp /\ fp g
  | _ => False)
theorem a1g {ι : Lay} {w : World} {b : Nat} {k : Blk} {l : Loc} (h : ι b = some l) : foot ι w b k l.g := ⟨l, h, .inl rfl⟩
theorem a4n {ι : Lay} {w : World} {b : Nat} {k : Blk} {g : Nat} (hk : k.plain = true) (h : foot ι w b k g) : ∃ l, ι b = some l /\ l.g = g := by
 obtain ⟨l, h1, h2⟩ := h
 rcases h2 with h2 | h2
 ·exact ⟨l, h1, h2⟩
 ·cases k <;> first | exact h2.elim | cases hk
def Als (ι : Lay) (bs : Nat -> Blk) (w : World) (x b i : Nat) : Prop := ∃ l : Loc, ι b = some l /\ ((bs b).live = true -> (bs b).flat = false) /\ ∀ rw t te e n r o y, bs b = .fam rw t te e n r o y -> i < n /\ o ≠ some i /\
 ∃ (a : Option Addr) (k : Nat), w.cell? ⟨l.g, l.o + i, none⟩ = some (.slice a (r i).1 k) /\ (0 < k -> ∃ lx, ι x = some lx /\ a = some ⟨lx.g, lx.o, none⟩ /\ lx.n = k) /\ (k = 0 -> ι x = none)
structure Amb where
 w0 : World
 G : Nat -> Prop
def b7i (w : World) : Prop := ∀ (g i : Nat) (z : Int), (c10 g)[i]? = some z -> w.cell? ⟨g, i, none⟩ = some (.int .i64 z) /\ g < w.heap.size
def c47 (G : Nat -> Prop) (w : World) : Prop := b7i w /\ ∀ (g i : Nat) (z : Int), (c10 g)[i]? = some z -> ¬ G g
structure Keeps (G : Nat -> Prop) (w w' : World) : Prop where
 gl : c47 G w
 os : w'.os = w.os
 tape : w'.tape = w.tape
 output : w'.output = w.output
 size : w.heap.size <= w'.heap.size
 block : ∀ g, g < w.heap.size -> ¬ G g -> w'.heap[g]? = w.heap[g]?
theorem Keeps.refl (G : Nat -> Prop) (w : World) (hg : c47 G w) : Keeps G w w := ⟨hg, rfl, rfl, rfl, Nat.le_refl _, fun _ _ _ => rfl⟩
structure WR (E : Amb) (ι : Lay) (bs : Nat -> Blk) (w : World) : Prop where
 br : ∀ b, BR ι w b (bs b)
 sepf : ∀ b b' g, b ≠ b' -> (bs b).rw = true -> (bs b').live = true -> foot ι w b (bs b) g -> foot ι w b' (bs b') g -> False
 lt : ∀ b l, ι b = some l -> l.g < w.heap.size
 flt : ∀ b g, (bs b).live = true -> foot ι w b (bs b) g -> g < w.heap.size
 amb : Keeps E.G E.w0 w
 ownf : ∀ b g, (bs b).rw = true -> foot ι w b (bs b) g -> E.G g \/ E.w0.heap.size <= g
 als : ∀ x b i, bs x = .row b i -> Als ι bs w x b i
theorem WR.glob {E : Amb} {ι : Lay} {bs : Nat -> Blk} {w : World} (h : WR E ι bs w) : b7i w := fun g i z hz => by
 obtain ⟨h1, h2⟩ := h.amb.gl.1 g i z hz
 exact ⟨(World.cell?_of_block (h.amb.block g h2 (h.amb.gl.2 g i z hz))).trans h1, Nat.lt_of_lt_of_le h2 h.amb.size⟩
theorem WR.globG {E : Amb} {ι : Lay} {bs : Nat -> Blk} {w : World} (h : WR E ι bs w) {G : Nat -> Prop} (hG : ∀ g, G g -> ∃ b, (bs b).rw = true /\ foot ι w b (bs b) g) : c47 G w :=
 ⟨h.glob, fun g i z hz hg => by
  obtain ⟨b, h1, h2⟩ := hG g hg
  have h3 := (h.amb.gl.1 g i z hz).2
  rcases h.ownf b g h1 h2 with q | q
  ·exact h.amb.gl.2 g i z hz q
  ·omega⟩
def Ext (ι ι' : Lay) : Prop := ∀ b l, ι b = some l -> ι' b = some l
theorem Ext.refl (ι : Lay) : Ext ι ι := fun _ _ h => h
theorem Ext.trans {a b c : Lay} (h : Ext a b) (k : Ext b c) : Ext a c := fun x l e => k x l (h x l e)
mutual
theorem a2p {ι ι' : Lay} (h : Ext ι ι') : ∀ (v : AV) (c : Value), rel ι v c -> rel ι' v c
 | .dead, _ => by simp [rel]
 | .val v, c => by simp [rel]
 | .sb b, c => by simp [rel]
 | .ptr b e i j, c => by simp only [rel]; rintro ⟨l, hl, e⟩; exact ⟨l, h _ _ hl, e⟩
 | .sl b e off len cap, c => by
  simp only [rel]
  rintro ⟨a, k, e1, h1, h2, h3⟩
  refine ⟨a, k, e1, h1, h2, fun hk => ?_⟩
  obtain ⟨l, hl, r⟩ := h3 hk
  exact ⟨l, h _ _ hl, r⟩
 | .fn f caps, c => by
  simp only [rel]
  rintro ⟨cs, e, h1⟩
  exact ⟨cs, e, a50 h caps cs h1⟩
 | .bfn f first caps, c => by
  simp only [rel]
  rintro ⟨fs, cs, e, h0, h1⟩
  exact ⟨fs, cs, e, a50 h first fs h0, a50 h caps cs h1⟩
 | .agg vs, c => by
  simp only [rel]
  rintro ⟨cs, e, h1, h2⟩
  exact ⟨cs, e, a50 h vs cs h1, h2⟩
 | .tup vs, c => by
  simp only [rel]
  rintro ⟨cs, e, h1⟩
  exact ⟨cs, e, a50 h vs cs h1⟩
 | .map b, c => by simp only [rel]; rintro ⟨l, hl, e⟩; exact ⟨l, h _ _ hl, e⟩
 | .rsl .., c => by simp only [rel]; exact id
 | .rptr .., c => by simp only [rel]; exact id
 | .ifc t v, c => by simp only [rel]; rintro ⟨u, e, h1⟩; exact ⟨u, e, a2p h v u h1⟩
theorem a50 {ι ι' : Lay} (h : Ext ι ι') : ∀ (vs : List AV) (cs : List Value), relL ι vs cs -> relL ι' vs cs
 | [], cs => by simp [relL]
 | v :: vs, cs => by
  simp only [relL]
  rintro ⟨c, r, e, h1, h2⟩
  exact ⟨c, r, e, a2p h v c h1, a50 h vs r h2⟩
end
theorem c6x {ι ι' : Lay} {w : World} {b : Nat} {k : Blk} (h : Ext ι ι') (hb : ι b = none -> ι' b = none) (hr : BR ι w b k) : BR ι' w b k := by
 cases k with
 | gone => exact hr
 | var cs =>
  obtain ⟨l, C, t, h1, h2, h3, h4⟩ := hr
  refine ⟨l, C, t, h _ _ h1, h2, h3, fun j v hj => ?_⟩
  obtain ⟨c, a1, a2, a3⟩ := h4 j v hj
  exact ⟨c, a1, a2, a2p h v c a3⟩
 | arr rw t e n c =>
  rcases hr with ⟨h1, h2⟩ | ⟨l, h1, h2, h3, h4⟩
  ·exact .inl ⟨h1, hb h2⟩
  ·refine .inr ⟨l, h _ _ h1, h2, fun i hi j hj => ?_, h4⟩
   obtain ⟨cv, a1, a2, a3⟩ := h3 i hi j hj
   exact ⟨cv, a1, a2, a2p h _ _ a3⟩
 | map ka ks c =>
  obtain ⟨l, es, clock, h1, h2, h3, h4⟩ := hr
  exact ⟨l, es, clock, h _ _ h1, h2, ⟨h3.keys, h3.len, h3.nodup, fun i k e a1 a2 => a2p h _ _ (h3.vals i k e a1 a2)⟩, h4⟩
 | mapg ka ks c es clock =>
  obtain ⟨l, h1, h2, h3, h4⟩ := hr
  exact ⟨l, h _ _ h1, h2, ⟨h3.keys, h3.len, h3.nodup, fun i k e a1 a2 => a2p h _ _ (h3.vals i k e a1 a2)⟩, h4⟩
 | iter m ka es clock S last =>
  obtain ⟨l, lm, seen, h1, h2, h3, h4⟩ := hr
  exact ⟨l, lm, seen, ⟨h _ _ h1.1, h1.2⟩, h _ _ h2, h3, h4⟩
 | fam rw t te e n r o y =>
  rcases hr with ⟨h1, h2, h3⟩ | ⟨l, h1, h2, h3, h4⟩
  ·exact .inl ⟨h1, hb h2, h3⟩
  ·refine .inr ⟨l, h _ _ h1, h2, ⟨fun i hi ho => ?_, fun i hi ho => ?_⟩, h4⟩
   ·obtain ⟨a, k, q1, q2, q3⟩ := h3.1 i hi ho
    refine ⟨a, k, q1, q2, fun hk => ?_⟩
    obtain ⟨g, p, s1, s0, s2, s3⟩ := q3 hk
    refine ⟨g, p, s1, s0, fun x hx j hj => ?_, s3⟩
    obtain ⟨cv, r1, r2, r3⟩ := s2 x hx j hj
    exact ⟨cv, r1, r2, a2p h _ _ r3⟩
   ·obtain ⟨a, k, q1, q2, q3⟩ := h3.2 i hi ho
    refine ⟨a, k, q1, q2, fun hk => ?_⟩
    obtain ⟨ly, s1, s2⟩ := q3 hk
    exact ⟨ly, h _ _ s1, s2⟩
 | row b i => trivial
 | rows rw e n hd r =>
  rcases hr with ⟨h1, h2⟩ | ⟨l, h1, h2⟩
  ·exact .inl ⟨h1, hb h2⟩
  ·exact .inr ⟨l, h _ _ h1, h2⟩
 | obj o =>
  obtain ⟨l, h1, h2⟩ := hr
  exact ⟨l, h _ _ h1, h2⟩
theorem b47 {ι : Lay} {w w' : World} {b : Nat} {k : Blk} (hf : ∀ g, foot ι w b k g -> w'.heap[g]? = w.heap[g]?) (hr : BR ι w b k) : BR ι w' b k := by
 have h : ∀ l, ι b = some l -> w'.heap[l.g]? = w.heap[l.g]? := fun l hl => hf _ (a1g hl)
 cases k with
 | gone => exact hr
 | var cs =>
  obtain ⟨l, C, t, h1, h2, h3, h4⟩ := hr
  exact ⟨l, C, t, h1, h2, (h l h1).trans h3, h4⟩
 | arr rw t e n c =>
  rcases hr with ⟨h1, h2⟩ | ⟨l, h1, h2, h3, h4⟩
  ·exact .inl ⟨h1, h2⟩
  ·have hs := h l h1
   refine .inr ⟨l, h1, h2, fun i hi j hj => ?_, fun hrw => ?_⟩
   ·obtain ⟨cv, a1, a2⟩ := h3 i hi j hj
    exact ⟨cv, (World.cell?_of_block hs).trans a1, a2⟩
   ·obtain ⟨q1, C, q, q2, q3, q4⟩ := h4 hrw
    exact ⟨q1, C, q, q2, hs.trans q3, q4⟩
 | map ka ks c =>
  obtain ⟨l, es, clock, h1, h2, h3⟩ := hr
  exact ⟨l, es, clock, h1, (h l h1).trans h2, h3⟩
 | mapg ka ks c es clock =>
  obtain ⟨l, h1, h2, h3⟩ := hr
  exact ⟨l, h1, (h l h1).trans h2, h3⟩
 | iter m ka es clock S last =>
  obtain ⟨l, lm, seen, h1, h2, h3, h4⟩ := hr
  exact ⟨l, lm, seen, h1, h2, (h l h1.1).trans h3, h4⟩
 | fam rw t te e n r o y =>
  rcases hr with ⟨h1, h2, h3⟩ | ⟨l, h1, h2, h3, h4⟩
  ·exact .inl ⟨h1, h2, h3⟩
  ·have hcell : ∀ i, w'.cell? ⟨l.g, l.o + i, none⟩ = w.cell? ⟨l.g, l.o + i, none⟩ := fun i => World.cell?_of_block (h l h1)
   refine .inr ⟨l, h1, h2, ⟨fun i hi ho => ?_, fun i hi ho => ?_⟩, fun hrw => ?_⟩
   rotate_left
   ·obtain ⟨a, k, q1, q2, q3⟩ := h3.2 i hi ho
    exact ⟨a, k, (hcell i).trans q1, q2, q3⟩
   rotate_left
   ·obtain ⟨a, k, q1, q2, q3⟩ := h3.1 i hi ho
    refine ⟨a, k, (hcell i).trans q1, q2, fun hk => ?_⟩
    obtain ⟨g, p, s1, s0, s2, s3⟩ := q3 hk
    have hg : w'.heap[g]? = w.heap[g]? := hf g ⟨l, h1, .inr ⟨i, hi, ho, p, _, k, by rw [q1, s1], hk⟩⟩
    have hgl : g < w'.heap.size := by
     rw [Array.getElem?_eq_getElem s0] at hg
     exact (Array.getElem?_eq_some_iff.1 hg).1
    refine ⟨g, p, s1, hgl, fun x hx j hj => ?_, fun hrw => ?_⟩
    ·obtain ⟨cv, r1, r2⟩ := s2 x hx j hj
     exact ⟨cv, (World.cell?_of_block hg).trans r1, r2⟩
    ·obtain ⟨r1, C, q, r2, r3, r4⟩ := s3 hrw
     exact ⟨r1, C, q, r2, hg.trans r3, r4⟩
   ·obtain ⟨q1, ⟨C, q2, q3⟩, q4⟩ := h4 hrw
    have hin : ∀ i g, a5n w' l i g -> a5n w l i g := fun i g ⟨p, m, k, r1, r2⟩ => ⟨p, m, k, (hcell i).symm.trans r1, r2⟩
    refine ⟨q1, ⟨C, (h l h1).trans q2, q3⟩, fun i g hi ho hI => ?_⟩
    obtain ⟨r1, r2⟩ := q4 i g hi ho (hin i g hI)
    exact ⟨r1, fun i' hi' ho' hne hI' => r2 i' hi' ho' hne (hin i' g hI')⟩
 | row b i => trivial
 | rows rw e n hd r =>
  rcases hr with ⟨h1, h2⟩ | ⟨l, h1, h2⟩
  ·exact .inl ⟨h1, h2⟩
  ·refine .inr ⟨l, h1, fun i hi => ?_⟩
   obtain ⟨a, k, q1, q2, q3⟩ := h2 i hi
   refine ⟨a, k, q1, q2, fun hk => ?_⟩
   obtain ⟨g, p, rfl, s2, s3⟩ := q3 hk
   have hg : w'.heap[g]? = w.heap[g]? := hf g ⟨l, h1, .inr ⟨i, hi, p, _, k, q1, hk⟩⟩
   have hgl : g < w'.heap.size := by
    rw [Array.getElem?_eq_getElem s2] at hg
    exact (Array.getElem?_eq_some_iff.1 hg).1
   exact ⟨g, p, rfl, hgl, fun x hx j hj => (World.cell?_of_block hg).trans (s3 x hx j hj)⟩
 | obj o =>
  obtain ⟨l, h1, h2, fp, h3⟩ := hr
  exact ⟨l, h1, h2, fp, o.loc w w' l fp h3 fun x hx => hf x ⟨l, h1, .inr ⟨fp, h3, hx⟩⟩⟩
theorem b0z {ι ι' : Lay} {w w' : World} {b : Nat} {k : Blk} {g : Nat} (hι : ι' b = ι b) (h0 : ∀ x, foot ι w b k x -> w'.heap[x]? = w.heap[x]?) (hr : BR ι w b k) (hf : foot ι' w' b k g) : foot ι w b k g := by
 have h : ∀ l, ι b = some l -> w'.heap[l.g]? = w.heap[l.g]? := fun l hl => h0 _ (a1g hl)
 obtain ⟨l, h1, h2⟩ := hf
 rw [hι] at h1
 refine ⟨l, h1, h2.imp id fun h2 => ?_⟩
 cases k with
 | fam rw t te e n r o y =>
  obtain ⟨i, hi, ho, p, m, k, r1, r2⟩ := h2
  exact ⟨i, hi, ho, p, m, k, (World.cell?_of_block (h l h1)).symm.trans r1, r2⟩
 | rows rw e n hd r => exact h2
 | obj o =>
  obtain ⟨l', e1, e2, fp, h3⟩ := hr
  rw [h1] at e1; cases e1
  obtain ⟨fp', h4, h5⟩ := h2
  exact ⟨fp, h3, o.prec w' l l fp' fp h4 (o.loc w w' l fp h3 fun x hx => h0 x ⟨l, h1, .inr ⟨fp, h3, hx⟩⟩) rfl g h5⟩
 | _ => exact h2.elim
theorem a60 {ι : Lay} {w : World} {b : Nat} {k : Blk} {ka : Option Nat} {ks : List (List Int)} {c : List Int -> AV} (h : k.asMap = some (ka, ks, c)) (hb : BR ι w b k) :
  ∃ (l : Loc) (es : Array MapEntry) (clock : Nat), ι b = some l /\ w.heap[l.g]? = some (.map es clock) /\ MapR ι ka ks c es.toList /\ MapKept.Stamped es clock := by
 cases k with
 | map ka' ks' c' => simp only [Blk.asMap, Option.some.injEq, Prod.mk.injEq] at h; obtain ⟨rfl, rfl, rfl⟩ := h; exact hb
 | mapg ka' ks' c' es clock =>
  simp only [Blk.asMap, Option.some.injEq, Prod.mk.injEq] at h
  obtain ⟨rfl, rfl, rfl⟩ := h
  obtain ⟨l, h1, h2⟩ := hb
  exact ⟨l, es, clock, h1, h2⟩
 | _ => cases h
theorem a4s {k : Blk} {x : Option Nat × List (List Int) × (List Int -> AV)} (h : k.asMap = some x) : k.plain = true := by
 cases k <;> first | rfl | cases h
theorem a7o {k : Blk} {x : Option Nat × List (List Int) × (List Int -> AV)} (h : k.asMap = some x) : k.rw = true := by
 cases k <;> first | rfl | cases h
def a1i (bs : Nat -> Blk) : List (Nat × Blk) -> Nat -> Blk
 | [] => bs
 | (b, k) :: r => fun x => bif Nat.beq x b then k else a1i bs r x
theorem a0p (bs : Nat -> Blk) (b : Nat) (k : Blk) (r) : a1i bs ((b, k) :: r) b = k := by simp [a1i]
theorem a0w (bs : Nat -> Blk) (b : Nat) (k : Blk) (r) {x : Nat} (h : x ≠ b) : a1i bs ((b, k) :: r) x = a1i bs r x := by
 have : Nat.beq x b = false := by
  cases hb : Nat.beq x b
  ·rfl
  ·exact absurd (Nat.eq_of_beq_eq_true hb) h
 simp [a1i, this]
theorem a09 (bs : Nat -> Blk) : ∀ (up : List (Nat × Blk)) (x : Nat), (∃ k, (x, k) ∈ up /\ a1i bs up x = k) \/ ((∀ k, (x, k) ∉ up) /\ a1i bs up x = bs x)
 | [], x => .inr ⟨by simp, rfl⟩
 | (b, k) :: r, x => by
  by_cases h : x = b
  ·subst h; exact .inl ⟨k, by simp, a0p _ _ _ _⟩
  ·rw [a0w _ _ _ _ h]
   rcases a09 bs r x with ⟨k', h1, h2⟩ | ⟨h1, h2⟩
   ·exact .inl ⟨k', by simp [h1], h2⟩
   ·exact .inr ⟨fun k' hk => by simp at hk; rcases hk with ⟨e, _⟩ | hk; exact h e; exact h1 k' hk, h2⟩
structure Delta (ι : Lay) (bs : Nat -> Blk) (f f' : Nat) (w : World) (ι' : Lay) (up : List (Nat × Blk)) (w' : World) : Prop where
 ext : ∀ b, b < f \/ f' <= b -> ι' b = ι b
 br : ∀ b, (∃ k, (b, k) ∈ up) -> BR ι' w' b (a1i bs up b)
 os : w'.os = w.os
 tape : w'.tape = w.tape
 output : w'.output = w.output
 size : w.heap.size <= w'.heap.size
 keep : ∀ g, g < w.heap.size -> (∀ b k l, (b, k) ∈ up -> (bs b).rw = true -> ι b = some l -> l.g ≠ g) -> w'.heap[g]? = w.heap[g]?
 lt : ∀ b l, f <= b -> b < f' -> ι' b = some l -> l.g < w'.heap.size
 fresh : ∀ b l, f <= b -> b < f' -> (a1i bs up b).live = true -> ι' b = some l -> w.heap.size <= l.g \/
  ∃ b0 l0, (b0, Blk.gone) ∈ up /\ a1i bs up b0 = .gone /\ (bs b0).rw = true /\ ι b0 = some l0 /\ l0.g = l.g
 one : ∀ b b' l l', f <= b -> b < f' -> f <= b' -> b' < f' -> b ≠ b' -> (a1i bs up b).rw = true -> (a1i bs up b').live = true -> ι' b = some l -> ι' b' = some l' -> l.g ≠ l'.g
 rwn : ∀ b k, (b, k) ∈ up -> k.live = true -> k.rw = true
 upr : ∀ b k, (b, k) ∈ up -> (f <= b /\ b < f') \/ (bs b).rw = true
 pl : ∀ b k, (b, k) ∈ up -> k.plain = true /\ ((f <= b /\ b < f') \/ (bs b).plain = true)
structure DeltaG (ι : Lay) (bs : Nat -> Blk) (f f' : Nat) (w : World) (ι' : Lay) (up : List (Nat × Blk)) (w' : World) : Prop where
 ext : ∀ b, b < f \/ f' <= b -> ι' b = ι b
 br : ∀ b, (∃ k, (b, k) ∈ up) -> BR ι' w' b (a1i bs up b)
 os : w'.os = w.os
 tape : w'.tape = w.tape
 output : w'.output = w.output
 size : w.heap.size <= w'.heap.size
 keep : ∀ g, g < w.heap.size -> (∀ b k, (b, k) ∈ up -> (bs b).rw = true -> ¬ foot ι w b (bs b) g) -> w'.heap[g]? = w.heap[g]?
 lt : ∀ b l, f <= b -> b < f' -> ι' b = some l -> l.g < w'.heap.size
 orig : ∀ b k g, (b, k) ∈ up -> (a1i bs up b).live = true -> foot ι' w' b (a1i bs up b) g -> (w.heap.size <= g /\ g < w'.heap.size) \/ ∃ b0 k0, (b0, k0) ∈ up /\ (bs b0).rw = true /\ foot ι w b0 (bs b0) g
 one : ∀ b b' k k' g, b ≠ b' -> (b, k) ∈ up -> (b', k') ∈ up -> (a1i bs up b).rw = true -> (a1i bs up b').live = true -> foot ι' w' b (a1i bs up b) g -> foot ι' w' b' (a1i bs up b') g -> False
 rwn : ∀ b k, (b, k) ∈ up -> k.live = true -> k.rw = true
 upr : ∀ b k, (b, k) ∈ up -> (f <= b /\ b < f') \/ (bs b).rw = true \/ ∃ c i, bs b = .row c i
 als : ∀ x b i, a1i bs up x = .row b i -> ((∀ k, (x, k) ∉ up) /\ ∀ k, (b, k) ∉ up) \/ Als ι' (a1i bs up) w' x b i
theorem DeltaG.wr {E : Amb} {ι : Lay} {bs : Nat -> Blk} {f f' : Nat} {w : World} {ι' : Lay} {up : List (Nat × Blk)} {w' : World}
  (hd : DeltaG ι bs f f' w ι' up w') (hn : ∀ b, f <= b -> b < f' -> ι b = none /\ bs b = .gone) (hw : WR E ι bs w) : Ext ι ι' /\ WR E ι' (a1i bs up) w' := by
 have hext : Ext ι ι' := fun b l hl => by
  by_cases hb : b < f \/ f' <= b
  ·rw [hd.ext b hb]; exact hl
  ·have := (hn b (by omega) (by omega)).1; rw [this] at hl; cases hl
 have slot : ∀ b, (f <= b /\ b < f') \/ (b < f \/ f' <= b) := fun b => by omega
 have cases' : ∀ b, (∃ k, (b, k) ∈ up) \/ ((∀ k, (b, k) ∉ up) /\ a1i bs up b = bs b) := fun b => by
  rcases a09 bs up b with ⟨k, h1, _⟩ | h
  ·exact .inl ⟨k, h1⟩
  ·exact .inr h
 have old : ∀ b, (∀ k, (b, k) ∉ up) -> bs b ≠ .gone -> ι' b = ι b := fun b h1 hl => by
  rcases slot b with hs | hs
  ·exact absurd (hn b hs.1 hs.2).2 hl
  ·exact hd.ext b hs
 have hng : ∀ {k : Blk}, k.live = true -> k ≠ .gone := fun h e => by rw [e] at h; cases h
 have same : ∀ b g, (∀ k, (b, k) ∉ up) -> (bs b).live = true -> foot ι w b (bs b) g -> w'.heap[g]? = w.heap[g]? := fun b g h1 hl hf =>
  hd.keep g (hw.flt b g hl hf) fun b1 k1 hm hr hf1 => hw.sepf b1 b g (fun e => h1 k1 (e ▸ hm)) hr hl hf1 hf
 have oldf : ∀ b g, (∀ k, (b, k) ∉ up) -> (bs b).live = true -> foot ι' w' b (bs b) g -> foot ι w b (bs b) g := fun b g h1 hl hf =>
  b0z (old b h1 (hng hl)) (fun x hx => same b x h1 hl hx) (hw.br b) hf
 refine ⟨hext, ⟨fun b => ?_, ?_, ?_, ?_, ?_, ?_, ?_⟩⟩
 ·rcases cases' b with hk | ⟨h1, h2⟩
  ·exact hd.br b hk
  ·rw [h2]
   cases hl : (bs b).live with
   | true => exact c6x hext (fun h => by rw [old b h1 (hng hl)]; exact h) (b47 (fun g hg => same b g h1 hl hg) (hw.br b))
   | false => cases hb : bs b <;> simp_all [Blk.live, BR]
 ·intro b b' g hne hr hl hf1 hf2
  rcases cases' b with ⟨k, hk⟩ | ⟨h1, h2⟩ <;> rcases cases' b' with ⟨k', hk'⟩ | ⟨h1', h2'⟩
  ·exact hd.one b b' k k' g hne hk hk' hr hl hf1 hf2
  ·rw [h2'] at hl hf2
   have hf2 := oldf b' g h1' hl hf2
   rcases hd.orig b k g hk (a1p hr) hf1 with ⟨q, _⟩ | ⟨b0, k0, q1, q2, q3⟩
   ·have := hw.flt b' g hl hf2; omega
   ·exact hw.sepf b0 b' g (fun e => h1' k0 (e ▸ q1)) q2 hl q3 hf2
  ·rw [h2] at hr hf1
   have hf1 := oldf b g h1 (a1p hr) hf1
   rcases hd.orig b' k' g hk' hl hf2 with ⟨q, _⟩ | ⟨b0, k0, q1, q2, q3⟩
   ·have := hw.flt b g (a1p hr) hf1; omega
   ·exact hw.sepf b0 b g (fun e => h1 k0 (e ▸ q1)) q2 (a1p hr) q3 hf1
  ·rw [h2] at hr hf1
   rw [h2'] at hl hf2
   exact hw.sepf b b' g hne hr hl (oldf b g h1 (a1p hr) hf1) (oldf b' g h1' hl hf2)
 ·intro b l hl
  rcases slot b with hs | hs
  ·exact hd.lt b l hs.1 hs.2 hl
  ·rw [hd.ext b hs] at hl
   exact Nat.lt_of_lt_of_le (hw.lt b l hl) hd.size
 ·intro b g hl hf
  rcases cases' b with ⟨k, hk⟩ | ⟨h1, h2⟩
  ·rcases hd.orig b k g hk hl hf with ⟨_, q⟩ | ⟨b0, k0, q1, q2, q3⟩
   ·exact q
   ·exact Nat.lt_of_lt_of_le (hw.flt b0 g (a1p q2) q3) hd.size
  ·rw [h2] at hl hf
   exact Nat.lt_of_lt_of_le (hw.flt b g hl (oldf b g h1 hl hf)) hd.size
 ·refine ⟨hw.amb.gl, hd.os.trans hw.amb.os, hd.tape.trans hw.amb.tape, hd.output.trans hw.amb.output, Nat.le_trans hw.amb.size hd.size, fun g hg hG => ?_⟩
  rw [<- hw.amb.block g hg hG]
  refine hd.keep g (Nat.lt_of_lt_of_le hg hw.amb.size) fun b k hm hr hf => ?_
  rcases hw.ownf b g hr hf with h | h
  ·exact hG h
  ·omega
 ·intro b g hr hf
  rcases cases' b with ⟨k, hk⟩ | ⟨h1, h2⟩
  ·rcases hd.orig b k g hk (a1p hr) hf with ⟨q, _⟩ | ⟨b0, k0, q1, q2, q3⟩
   ·exact .inr (Nat.le_trans hw.amb.size q)
   ·exact hw.ownf b0 g q2 q3
  ·rw [h2] at hr hf
   exact hw.ownf b g hr (oldf b g h1 (a1p hr) hf)
 ·intro x b i hx
  rcases hd.als x b i hx with ⟨h1, h2⟩ | h
  ·have hx' : bs x = .row b i := by
    rcases cases' x with ⟨k, hk⟩ | ⟨_, q⟩
    ·exact absurd hk (h1 k)
    ·rw [<- q]; exact hx
   have hb' : a1i bs up b = bs b := by
    rcases cases' b with ⟨k, hk⟩ | ⟨_, q⟩
    ·exact absurd hk (h2 k)
    ·exact q
   obtain ⟨l, q3, q0, q⟩ := hw.als x b i hx'
   refine ⟨l, hext b l q3, by rw [hb']; exact q0, fun rw t te e n r o y hb => ?_⟩
   rw [hb'] at hb
   obtain ⟨q1, q2, a, k, q4, q5, q6⟩ := q rw t te e n r o y hb
   have hlive : (bs b).live = true := by rw [hb]; rfl
   have ex : ι' x = ι x := old x h1 (by rw [hx']; intro e; cases e)
   refine ⟨q1, q2, a, k, (World.cell?_of_block (same b l.g h2 hlive (a1g q3))).trans q4, ?_, ?_⟩
   ·rw [ex]; exact q5
   ·rw [ex]; exact q6
  ·exact h
theorem Delta.toG {E : Amb} {ι : Lay} {bs : Nat -> Blk} {f f' : Nat} {w : World} {ι' : Lay} {up : List (Nat × Blk)} {w' : World}
  (hd : Delta ι bs f f' w ι' up w') (hn : ∀ b, f <= b -> b < f' -> ι b = none /\ bs b = .gone) (hw : WR E ι bs w) : DeltaG ι bs f f' w ι' up w' := by
 have slot : ∀ b, (f <= b /\ b < f') \/ (b < f \/ f' <= b) := fun b => by omega
 have hpl : ∀ b k, (b, k) ∈ up -> (a1i bs up b).plain = true := fun b k hk => by
  rcases a09 bs up b with ⟨k', h1, h2⟩ | ⟨h1, _⟩
  ·rw [h2]; exact (hd.pl b k' h1).1
  ·exact absurd hk (h1 k)
 have oldrw : ∀ b k, (b, k) ∈ up -> (b < f \/ f' <= b) -> (bs b).rw = true := fun b k hk hs => by
  rcases hd.upr b k hk with h | h
  ·omega
  ·exact h
 have new : ∀ b l, f <= b -> b < f' -> (a1i bs up b).live = true -> ι' b = some l -> (w.heap.size <= l.g /\ l.g < w'.heap.size) \/ ∃ b0 k0, (b0, k0) ∈ up /\ a1i bs up b0 = .gone /\ (bs b0).rw = true /\ foot ι w b0 (bs b0) l.g := by
  intro b l h1 h2 h3 h4
  rcases hd.fresh b l h1 h2 h3 h4 with q | ⟨b0, l0, q1, q2, q3, q4, q5⟩
  ·exact .inl ⟨q, hd.lt b l h1 h2 h4⟩
  ·exact .inr ⟨b0, _, q1, q2, q3, q5 ▸ a1g q4⟩
 exact {
  ext := hd.ext
  br := hd.br
  os := hd.os
  tape := hd.tape
  output := hd.output
  size := hd.size
  keep := fun g hg hk => hd.keep g hg fun b k l hm hr hl e => hk b k hm hr (e ▸ a1g hl)
  lt := hd.lt
  orig := fun b k g hk hl hf => by
   obtain ⟨l, h1, rfl⟩ := a4n (hpl b k hk) hf
   rcases slot b with hs | hs
   ·rcases new b l hs.1 hs.2 hl h1 with q | ⟨b0, k0, q1, _, q2, q3⟩
    ·exact .inl q
    ·exact .inr ⟨b0, k0, q1, q2, q3⟩
   ·rw [hd.ext b hs] at h1
    exact .inr ⟨b, k, hk, oldrw b k hk hs, a1g h1⟩
  one := fun b b' k k' g hne hk hk' hr hl hf hf' => by
   obtain ⟨l, h1, rfl⟩ := a4n (hpl b k hk) hf
   obtain ⟨l', h1', e⟩ := a4n (hpl b' k' hk') hf'
   rcases slot b with hs | hs <;> rcases slot b' with hs' | hs'
   ·exact hd.one b b' l l' hs.1 hs.2 hs'.1 hs'.2 hne hr hl h1 h1' e.symm
   ·rw [hd.ext b' hs'] at h1'
    have hr' := oldrw b' k' hk' hs'
    rcases new b l hs.1 hs.2 (a1p hr) h1 with ⟨q, _⟩ | ⟨b0, k0, q1, q2, q3, q4⟩
    ·have := hw.lt b' l' h1'; omega
    ·refine hw.sepf b0 b' l.g (fun e' => ?_) q3 (a1p hr') q4 (e ▸ a1g h1')
     subst e'; rw [q2] at hl; cases hl
   ·rw [hd.ext b hs] at h1
    have hr' := oldrw b k hk hs
    rcases new b' l' hs'.1 hs'.2 hl h1' with ⟨q, _⟩ | ⟨b0, k0, q1, q2, q3, q4⟩
    ·have := hw.lt b l h1; omega
    ·refine hw.sepf b0 b l.g (fun e' => ?_) q3 (a1p hr') (e ▸ q4) (a1g h1)
     subst e'; rw [q2] at hr; cases hr
   ·rw [hd.ext b hs] at h1
    rw [hd.ext b' hs'] at h1'
    exact hw.sepf b b' l.g hne (oldrw b k hk hs) (a1p (oldrw b' k' hk' hs')) (a1g h1) (e ▸ a1g h1')
  rwn := hd.rwn
  upr := fun b k hk => (hd.upr b k hk).imp id .inl
  als := fun x b i hx => by
   have hx0 : ∀ k, (x, k) ∉ up := fun k hk => by
    have := hpl x k hk; rw [hx] at this; cases this
   have hxb : bs x = .row b i := by
    rcases a09 bs up x with ⟨k', h1, _⟩ | ⟨_, h2⟩
    ·exact absurd h1 (hx0 k')
    ·rw [<- h2]; exact hx
   obtain ⟨l, q1, q2, _⟩ := hw.als x b i hxb
   refine .inl ⟨hx0, fun k hk => ?_⟩
   have hs : b < f \/ f' <= b := by
    rcases slot b with hs | hs
    ·rw [(hn b hs.1 hs.2).1] at q1; cases q1
    ·exact hs
   have h1 := q2 (a1p (oldrw b k hk hs))
   rcases (hd.pl b k hk).2 with h2 | h2
   ·omega
   ·rw [a6u h2] at h1; cases h1 }
end Go.Vx
namespace Go.Vx
inductive TK where
 | other
 | bool
 | str
 | int (k : IntKind)
 | slice (e : TypeId)
 | struct (fs : List (Nat × Nat × Bool))
 | array (n : Nat) (e : TypeId)
 | map (k e : TypeId)
 | ptr (e : TypeId)
 | mptr (e : TypeId) (n : String) (g : FuncId) (off : Nat)
structure TyD where
 t : TypeId
 k : TK
 sz : Nat
 bytes : Nat
 zero : List Value
 eq : Option (List Bool)
def TK.agg : TK -> Bool
 | .struct _ => true
 | .array _ _ => true
 | _ => false
def b06 (P : Program) (t : TypeId) : Bool :=
 match P.underlying t with
 | some (.struct _) => true
 | some (.array _ _) => true
 | _ => false
def a2v (P : Program) (t : TypeId) : Nat := match P.info? t with | some i => i.size | none => 0
def a3o (P : Program) : TypeDesc -> Bool
 | .struct fs => fs.toList.all fun f => (P.info? f.type).isSome && (P.underlying f.type).isSome
 | _ => true
def c3g (P : Program) (g : TypeId -> Option (List Bool)) : List Field -> Nat -> Option (List Bool)
 | [], _ => some []
 | f :: r, i => bif Nat.beq f.offset i && f.name != "_" then (match g f.type with
  | some k => (match c3g P g r (i + k.length) with
   | some l => some (k ++ l)
   | none => none)
  | none => none) else none
def c4u (P : Program) : Nat -> TypeId -> Option (List Bool)
 | 0, _ => none
 | n + 1, t => match P.underlying t with
  | some (.int _) => some [true]
  | some .bool => some [false]
  | some (.struct fs) => bif P.stoodInHeld t then none else (match c3g P (c4u P n) fs.toList 0 with
   | some l => bif Nat.beq (a2v P t) l.length && (P.info? t).isSome then some l else none
   | none => none)
  | _ => none
def c8f (P : Program) (t : TypeId) : Option (List Bool) :=
 match P.underlying t with
 | some (.struct fs) => bif !P.stoodInHeld t && !P.eqGuardType P.depth t then c3g P (c4u P 3) fs.toList 0 else none
 | _ => none
def a89 : TypeDesc -> Value -> Bool
 | .struct _, .agg _ => true
 | .array _ _, .agg _ => true
 | .struct _, _ => false
 | .array _ _, _ => false
 | _, .agg _ => false
 | _, .tuple _ => false
 | _, _ => true
def b1g (P : Program) (t : TypeId) (name : String) : Option (FuncId × Nat) := match P.info? t with
 | some i => match i.methods.find? (·.name == name) with
  | some m => match m.func, m.path.toList with
   | some (g, true), [s] => match P.underlying s.struct with
    | some (.struct fs) => match fs[s.index]? with
     | some f => match P.info? f.type, P.underlying f.type with
      | some j, some (.struct _) => bif s.deref && Nat.blt 0 j.size then some (g, f.offset) else none
      | _, _ => none
     | none => none
    | _ => none
   | _, _ => none
  | none => none
 | none => none
def c40 (P : Program) (t e : TypeId) : TK := match P.info? t with
 | some i => match i.methods.toList with
  | [m] => match b1g P t m.name with
   | some (g, off) => .mptr e m.name g off
   | none => .ptr e
  | _ => .ptr e
 | none => .ptr e
def a8x (P : Program) (t : TypeId) : Option TyD :=
 match P.info? t, P.underlying t with
 | some i, some d => match i.zero with
  | some z => bif !(a3o P d && a89 d z) then none else some {
    t := t
    k := match d with
     | .bool => .bool
     | .string => .str
     | .int k => .int k
     | .slice e => .slice e
     | .struct fs => .struct (fs.toList.map fun f => (f.offset, a2v P f.type, b06 P f.type))
     | .array n e => .array n e
     | .map k e => .map k e
     | .pointer e => c40 P t e
     | _ => .other
    sz := i.size
    bytes := i.bytes
    zero := z.cells.toList
    eq := c8f P t }
  | none => none
 | _, _ => none
abbrev Tab := List TyD
def Tab.get (T : Tab) (t : TypeId) : Option TyD := List.find? (fun d => Nat.beq d.t t) T
def a2n (P : Program) (T : Tab) : Prop := T.map (fun d => a8x P d.t) = T.map some /\ P.follows .mixedOrders = true
theorem Tab.get_ok {P : Program} {T : Tab} (h : a2n P T) {t : TypeId} {d : TyD} (hd : T.get t = some d) : a8x P t = some d := by
 have h1 := List.find?_some hd
 have h2 := List.mem_of_find?_eq_some hd
 have e : d.t = t := Nat.eq_of_beq_eq_true h1
 have := List.map_inj_left.1 h.1 d h2
 rw [<- e]; exact this
def AV.cells : AV -> List AV
 | .agg cs => cs
 | v => [v]
def AV.one : AV -> Bool
 | .val (.agg _) => false
 | .val (.tuple _) => false
 | .val _ => true
 | .sb _ => true
 | .ptr .. => true
 | .sl .. => true
 | .fn .. => true
 | .bfn .. => true
 | .map _ => true
 | .rsl .. => true
 | .rptr .. => true
 | .ifc .. => true
 | _ => false
def a2a : List AV -> Bool
 | [] => true
 | v :: r => v.one && a2a r
def a14 : List Prop -> Prop
 | [] => True
 | p :: r => p /\ a14 r
def stop (p : Prop) : Prop := ∀ Q : Prop, (p -> Q) -> Q
theorem a1m {p : Prop} (h : stop p) : p := h p id
theorem b98 {p : Prop} (h : p) : stop p := fun _ k => k h
abbrev b29 : List Prop -> Prop -> Prop
 | [], q => q
 | p :: r, q => stop (p /\ b29 r q)
theorem a02 {α : Type} {b : Bool} {x y : α} (h : (bif b then some x else none) = some y) : b = true /\ x = y := by
 cases b
 ·cases h
 ·exact ⟨rfl, by simpa using h⟩
theorem a2k : ∀ (l : List Prop) (q : Prop), b29 l q -> a14 l /\ q
 | [], _, h => ⟨trivial, h⟩
 | _ :: r, q, h => by
  obtain ⟨h1, h2⟩ := a1m h
  exact ⟨⟨h1, (a2k r q h2).1⟩, (a2k r q h2).2⟩
theorem b2v : ∀ (l : List Prop) (q : Prop), a14 l -> q -> b29 l q
 | [], _, _, h => h
 | _ :: r, q, h1, h => b98 ⟨h1.1, b2v r q h1.2 h⟩
def a17 (k : Blk) (e i j sz : Nat) : Option (List Prop × List AV) :=
 match k with
 | .gone => none
 | .var cs => bif Nat.beq i 0 && Nat.ble (j + sz) cs.length then some ([], (range' sz j).map fun m => cs.getD m .dead) else none
 | .arr _ _ e' n c => bif Nat.beq e' e && Nat.ble (j + sz) e then some ([i < n], (range' sz j).map fun m => c i m) else none
 | .map .. => none
 | .mapg .. => none
 | .iter .. => none
 | .fam .. => none
 | .row .. => none
 | .rows .. => none
 | .obj _ => none
def b2q : List AV -> List AV -> List AV
 | [], _ => []
 | c :: cs, [] => c :: cs
 | _ :: cs, v :: vs => v :: b2q cs vs
def setCells : List AV -> Nat -> List AV -> List AV
 | [], _, _ => []
 | c :: cs, 0, vs => b2q (c :: cs) vs
 | c :: cs, j + 1, vs => c :: setCells cs j vs
def a03 (k : Blk) (e i j : Nat) (vs : List AV) : Option (List Prop × Blk) :=
 match k with
 | .gone => none
 | .var cs => bif Nat.beq i 0 && Nat.ble (j + vs.length) cs.length then some ([], .var (setCells cs j vs)) else none
 | .arr rw t e' n c => bif Nat.beq e' e && rw && Nat.ble (j + vs.length) e then
   some ([i < n], .arr rw t e' n fun i' j' => bif Nat.beq i' i && (Nat.ble j j' && Nat.blt j' (j + vs.length)) then vs.getD (j' - j) .dead else c i' j')
  else none
 | .map .. => none
 | .mapg .. => none
 | .iter .. => none
 | .fam .. => none
 | .row .. => none
 | .rows .. => none
 | .obj _ => none
def kEq : IntKind -> IntKind -> Bool
 | .i8, .i8 => true | .i16, .i16 => true | .i32, .i32 => true | .i64, .i64 => true
 | .u8, .u8 => true | .u16, .u16 => true | .u32, .u32 => true | .u64, .u64 => true
 | _, _ => false
theorem c0k {a b : IntKind} (h : kEq a b = true) : a = b := by cases a <;> cases b <;> first | rfl | cases h
def c9a (op : BinOp) (k : IntKind) (a b : Int) : Option (List Prop × AV) :=
 match op with
 | .add => some ([], .val (.int k (k.wrap (a + b))))
 | .sub => some ([], .val (.int k (k.wrap (a - b))))
 | .mul => some ([], .val (.int k (k.wrap (a * b))))
 | .quo => some ([b ≠ 0], .val (.int k (k.wrap (a.tdiv b))))
 | .rem => some ([b ≠ 0], .val (.int k (a.tmod b)))
 | .eql => some ([], .sb (a == b))
 | .neq => some ([], .sb (a != b))
 | .lss => some ([], .sb (a < b))
 | .leq => some ([], .sb (a <= b))
 | .gtr => some ([], .sb (a > b))
 | .geq => some ([], .sb (a ≥ b))
 | .and => some ([], .val (.int k (k.wrap (BitVec.ofInt k.bits a &&& BitVec.ofInt k.bits b).toNat)))
 | .or => some ([], .val (.int k (k.wrap (BitVec.ofInt k.bits a ||| BitVec.ofInt k.bits b).toNat)))
 | .xor => some ([], .val (.int k (k.wrap (BitVec.ofInt k.bits a ^^^ BitVec.ofInt k.bits b).toNat)))
 | .andNot => some ([], .val (.int k (k.wrap (BitVec.ofInt k.bits a &&& ~~~ BitVec.ofInt k.bits b).toNat)))
 | _ => none
def c81 (op : BinOp) (a b : Bool) : Option (List Prop × AV) :=
 match op with
 | .eql => some ([], .sb (a == b))
 | .neq => some ([], .sb (!(a == b)))
 | _ => none
def c1s : BinOp -> Bool
 | .shl => true
 | .shr => true
 | _ => false
def c0e (op : BinOp) (k : IntKind) (a b : Int) : Option (List Prop × AV) :=
 match op with
 | .shl => some ([0 <= b], .val (.int k (k.wrap (a * 2 ^ (min b.toNat k.bits)))))
 | .shr => some ([0 <= b], .val (.int k (a.fdiv (2 ^ (min b.toNat k.bits)))))
 | _ => none
def c9w (op : BinOp) (x y : AV) : Option (List Prop × AV) :=
 match x, y with
 | .val (.int k a), .val (.int k' b) => match c1s op with
  | true => c0e op k a b
  | false => bif kEq k k' then c9a op k a b else none
 | _, _ => none
def toB : AV -> Option Bool
 | .sb b => some b
 | .val (.bool b) => some b
 | _ => none
def eq1 (k : Bool) (x y : AV) : Option Bool :=
 match k with
 | true => match x, y with
  | .val (.int k a), .val (.int k' b) => bif kEq k k' then some (a == b) else none
  | _, _ => none
 | false => match toB x, toB y with
  | some a, some b => some (a == b)
  | _, _ => none
def a19 : List Bool -> List AV -> List AV -> Option Bool
 | [], [], [] => some true
 | k :: ks, x :: xs, y :: ys => match eq1 k x y, a19 ks xs ys with
  | some a, some b => some (a && b)
  | _, _ => none
 | _, _, _ => none
def sEq (x y : AV) (d : Option TyD) : Option Bool :=
 match x, y, d with
 | .agg xs, .agg ys, some { eq := some ks, .. } => a19 ks xs ys
 | .ptr .., .val (.pointer none), some { k := .ptr _, .. } => some false
 | .val (.pointer none), .val (.pointer none), some { k := .ptr _, .. } => some true
 | .map _, .val (.map none), some { k := .map _ _, .. } => some false
 | .val (.map none), .val (.map none), some { k := .map _ _, .. } => some true
 | _, _, _ => none
def c8q (op : BinOp) (b : Bool) : Option (List Prop × AV) :=
 match op with
 | .eql => some ([], .sb b)
 | .neq => some ([], .sb (!b))
 | _ => none
def aUn (op : UnOp) (x : AV) : Option (List Prop × AV) :=
 match op, x with
 | .not, .val (.bool b) => some ([], .val (.bool (!b)))
 | .not, .sb b => some ([], .sb (!b))
 | .neg, .val (.int k n) => some ([], .val (.int k (k.wrap (0 - n))))
 | .xor, .val (.int k n) => some ([], .val (.int k (k.wrap (BitVec.ofInt k.bits (if k.signed then -1 else k.max) ^^^ BitVec.ofInt k.bits n).toNat)))
 | _, _ => none
def c4d (e : Nat) (x : AV) (ix : AV) : Option (List Prop × AV) :=
 match ix with
 | .val (.int _ n) =>
  match x with
  | .sl b e' off len _ => bif Nat.beq e' e then some ([0 <= n, n < len], .ptr b e (off + n.toNat) 0) else none
  | .rsl y i e' len h => bif Nat.beq e' e then some ([0 <= n, n < len], .rptr y i e n.toNat 0 h) else none
  | _ => none
 | _ => none
def b4p (k : Blk) (i e x j : Nat) (h : Value) (sz : Nat) : Option (List Prop × List AV) := match k with
 | .rows _ e' n hd r => bif Nat.beq e' e && Nat.ble (j + sz) e then some ([i < n, h = hd i, x < (r i).1], (range' sz j).map fun m => .val (.int .i64 ((r i).2 x m))) else none
 | _ => none
def b0j : Option AV -> Int -> Option Int
 | none, d => some d
 | some (.val (.int _ n)), _ => some n
 | _, _ => none
def c4e (e : Nat) (x : AV) (lo hi mx : Option AV) : Option (List Prop × AV) :=
 match x with
 | .sl b e' off len cap => bif Nat.beq e' e then
   match b0j lo 0, b0j hi len, mx with
   | some l, some h, none => some ([0 <= l, l <= h, h <= len], .sl b e (off + l.toNat) (h - l).toNat (cap.map (· - l.toNat)))
   | some l, some h, some (.val (.int _ m)) => bif hi.isSome then some ([0 <= l, l <= h, h <= m, m <= len], .sl b e (off + l.toNat) (h - l).toNat (some (m - l).toNat)) else none
   | _, _, _ => none
  else none
 | _ => none
def c0o (e n : Nat) (x : AV) (lo hi mx : Option AV) : Option (List Prop × AV) :=
 match x, mx with
 | .ptr b e' i 0, none => bif Nat.beq e' e then
   match b0j lo 0, b0j hi n with
   | some l, some h => some ([0 <= l, l <= h, h <= n], .sl b e (i + l.toNat) (h - l).toNat (some (n - l.toNat)))
   | _, _ => none
  else none
 | _, _ => none
def c4g (T : Tab) (d : TyD) : Option (Nat × Nat) := match d.k with
 | .array n te => match T.get te with
  | some de => bif Nat.ble 9 n && Nat.ble n 16777216 && Nat.blt 0 de.sz && Nat.beq d.zero.length (n * de.sz) then some (de.sz, n) else none
  | none => none
 | _ => none
def a6c (place : Nat -> Option (Nat × Nat)) (cells : List AV) : List (Nat × AV) -> Option (List AV)
 | [] => some cells
 | (i, v) :: rest =>
  match place i with
  | none => none
  | some (off, size) => bif Nat.beq v.cells.length size && Nat.ble (off + v.cells.length) cells.length && a2a v.cells then a6c place (setCells cells off v.cells) rest else none
def a3z (z : List Value) : Nat -> List AV
 | 0 => []
 | n + 1 => z.map .val ++ a3z z n
def b3l (sz : Nat) (x : AV) (bs : Nat -> Blk) : Option (List Prop × Nat × (Nat -> Nat -> AV)) :=
 match x with
 | .val (.slice none 0 0) => some ([], 0, fun _ _ => .dead)
 | .sl b e off n _ => match bs b with
  | .arr _ _ e' m c => bif Nat.beq e' sz && Nat.beq e sz then some ([off + n <= m], n, fun i j => c (off + i) j) else none
  | _ => none
 | _ => none
def b09 (len : Nat) (c0 c : Nat -> Nat -> AV) (i j : Nat) : AV := bif Nat.blt i len then c0 i j else c (i - len) j
theorem b2e {len i : Nat} (h : i < len) (c0 c : Nat -> Nat -> AV) (j : Nat) : b09 len c0 c i j = c0 i j := by
 have : Nat.blt i len = true := Nat.ble_eq_true_of_le h
 simp [b09, this]
theorem a8f {len i : Nat} (h : len <= i) (c0 c : Nat -> Nat -> AV) (j : Nat) : b09 len c0 c i j = c (i - len) j := by
 have : Nat.blt i len = false := by
  rw [Bool.eq_false_iff]; intro hh; have : i < len := Nat.le_of_ble_eq_true hh; omega
 simp [b09, this]
def b02 (te : TyD) (s x : AV) (bs : Nat -> Blk) (f : Nat) : Option (List Prop × AV × List (Nat × Blk)) :=
 match b3l te.sz x bs with
 | none => none
 | some (p, n, c) => bif Nat.beq te.sz 0 || Nat.beq te.bytes 0 || !Nat.beq te.zero.length te.sz then none else
  match s with
  | .val (.slice none 0 0) => some ((n * te.bytes <= 140737488355328) :: p, .sl f te.sz 0 n none, [(f, .arr true te.t te.sz n c)])
  | .sl b e off len none => match bs b with
   | .arr true t e' m c0 => bif Nat.beq t te.t && Nat.beq e' te.sz && Nat.beq e te.sz then
     (bif Nat.beq off 0 then
     some ((m = len) :: ((len + n) * te.bytes <= 140737488355328) :: p, .sl f te.sz 0 (len + n) none,
      [(b, .gone), (f, .arr true te.t te.sz (len + n) (b09 len c0 c))])
     else some ((m = off + len) :: ((len + n) * te.bytes <= 140737488355328) :: p, .sl f te.sz 0 (len + n) none,
      [(b, .gone), (f, .arr true te.t te.sz (len + n) (b09 len (fun i j => c0 (off + i) j) c))]))
    else none
   | _ => none
  | .sl b e off len (some cp) => match bs b with
   | .arr _ _ e' m c0 => bif Nat.beq e' te.sz && Nat.beq e te.sz then
     some ((off + len <= m) :: (cp < len + n \/ cp = 0) :: ((len + n) * te.bytes <= 140737488355328) :: p, .sl f te.sz 0 (len + n) none,
      [(f, .arr true te.t te.sz (len + n) (b09 len (fun i j => c0 (off + i) j) c))])
    else none
   | _ => none
  | _ => none
structure CpD where
 p : List Prop
 n : Nat
 c : Nat -> Nat -> AV
 b : Nat
 off : Nat
 len : Nat
 t : Nat
 e : Nat
 m : Nat
 c0 : Nat -> Nat -> AV
def c5o (te : TyD) (d x : AV) (bs : Nat -> Blk) : Option CpD :=
 match b3l te.sz x bs with
 | none => none
 | some (p, n, c) => match d with
  | .sl b e off len _ => match bs b with
   | .arr true t e' m c0 => bif Nat.beq e te.sz && Nat.beq e' te.sz then some ⟨p, n, c, b, off, len, t, te.sz, m, c0⟩ else none
   | _ => none
  | _ => none
def cpF (off n : Nat) (c0 c : Nat -> Nat -> AV) (i j : Nat) : AV := bif Nat.ble off i && Nat.blt i (off + n) then c (i - off) j else c0 i j
def a5v : List AV -> Option (List Int)
 | [] => some []
 | .val (.int .i64 n) :: r => match a5v r with
  | some l => some (n :: l)
  | none => none
 | _ :: _ => none
def c26 (T : Tab) (kt : TypeId) : Option (Option Nat) := match T.get kt with
 | some { k := .int .i64, .. } => some none
 | some { k := .array n e, .. } => match T.get e with
  | some d => match d.k with
   | .int .i64 => bif Nat.beq d.sz 1 then some (some n) else none
   | _ => none
  | none => none
 | some { k := .struct fl, eq := some ks, .. } => bif (ks.all id && fl.all fun x => !x.2.2) then some (some ks.length) else none
 | _ => none
def c7b : Option Nat -> Option Nat -> Bool
 | none, none => true
 | some a, some b => Nat.beq a b
 | _, _ => false
theorem b2u {a b : Option Nat} (h : c7b a b = true) : a = b := by
 cases a <;> cases b <;> first | rfl | cases h | (rw [Nat.eq_of_beq_eq_true h])
def keyOf (ka : Option Nat) (v : AV) : Option (List Int) := match ka, v with
 | none, .val (.int .i64 n) => some [n]
 | some m, .agg cs => match a5v cs with
  | some l => bif Nat.beq l.length m then some l else none
  | none => none
 | _, _ => none
def addKey (ks : List (List Int)) (n : List Int) : List (List Int) := bif ks.contains n then ks else ks ++ [n]
def b1x (c : List Int -> AV) (n : List Int) (v : AV) : List Int -> AV := fun k => bif k == n then v else c k
def c0d (d : TyD) : Option AV := bif d.k.agg then (bif a2a (d.zero.map .val) then some (.agg (d.zero.map .val)) else none) else match d.zero with
 | [z] => some (.val z)
 | _ => none
def okV (ok : Bool) (v : AV) (b : Bool) : AV := match ok with
 | true => .tup [v, .sb b]
 | false => v
def c6c (T : Tab) (op : Op) (ρ : Operand -> AV) (bs : Nat -> Blk) : Option (Bool × AV × AV) := match op with
 | .lookup t x ix ok => match T.get t with
  | some { k := .map kt et, .. } => match c26 T kt, T.get et with
   | some ka', some de => match c0d de, keyOf ka' (ρ ix), ρ x with
    | some z, some n, .map b => match (bs b).asMap with
     | some (ka, ks, c) => bif c7b ka ka' then some (ks.contains n, okV ok (c n) true, okV ok z false) else none
     | _ => none
    | some z, some _, .val (.map none) => some (false, okV ok z false, okV ok z false)
    | _, _, _ => none
   | _, _ => none
  | _ => none
 | _ => none
def c5b (s : ByteArray) (i : Nat) : Int := match s[i]? with
 | some b => (b.toNat : Int)
 | none => 0
def aop (T : Tab) (op : Op) (ρ : Operand -> AV) (bs : Nat -> Blk) (f : Nat) : Option (List Prop × AV × List (Nat × Blk)) :=
 match op with
 | .move x => some ([], ρ x, [])
 | .assign x => some ([], ρ x, [])
 | .pick c a b => match ρ c with
  | .val (.bool t) => some ([], (match t with | true => ρ a | false => ρ b), [])
  | .sb t => match ρ a, ρ b with
   | .sb x, .sb y => some ([], .sb (bif t then x else y), [])
   | .val (.int k x), .val (.int k' y) => bif kEq k k' then some ([], .val (.int k (bif t then x else y)), []) else none
   | _, _ => none
  | _ => none
 | .alloc t => match T.get t with
  | some d => bif a2a (d.zero.map .val) then (match c4g T d with
   | some (e, n) => some ([], .ptr f e 0 0, [(f, .arr true t e n fun i j => .val (d.zero.getD (i * e + j) undef))])
   | none => some ([], .ptr f d.sz 0 0, [(f, .var (d.zero.map .val))])) else none
  | none => none
 | .box t x => match T.get t with
  | some d => bif a2a (ρ x).cells then some ([], .ptr f d.sz 0 0, [(f, .var (ρ x).cells)]) else none
  | none => none
 | .load t x => match T.get t, ρ x with
  | some d, .ptr b e i j => match a17 (bs b) e i j d.sz with
   | some (p, cs) => bif d.k.agg || Nat.beq d.sz 1 then some (p, a9b d.k.agg cs, []) else none
   | none => none
  | some d, .rptr y i e x j h => match b4p (bs y) i e x j h d.sz with
   | some (p, cs) => bif d.k.agg || Nat.beq d.sz 1 then some (p, a9b d.k.agg cs, []) else none
   | none => none
  | some { k := .int .i64, .. }, .val (.pointer (some ⟨g, o, none⟩)) => some ([o < (c10 g).length], .val (.int .i64 ((c10 g).getD o 0)), [])
  | _, _ => none
 | .store t x v => match T.get t, ρ x with
  | some d, .ptr b e i j => match a03 (bs b) e i j (ρ v).cells with
   | some (p, k) => bif Nat.beq (ρ v).cells.length d.sz && a2a (ρ v).cells then some (p, .dead, [(b, k)]) else none
   | none => none
  | _, _ => none
 | .nilCheck x => match ρ x with
  | .ptr b e i j => some ([], .ptr b e i j, [])
  | .fn (.func f) caps => some ([], .fn (.func f) caps, [])
  | .bfn (.method name) [.ifc t (.ptr b e i j)] caps => match T.get t with
   | some { k := .mptr _ n _ _, .. } => some ([n = name], .bfn (.method name) [.ifc t (.ptr b e i j)] caps, [])
   | _ => none
  | _ => none
 | .binOp op t x y _ => match c9w op (ρ x) (ρ y) with
  | some (p, v) => some (p, v, [])
  | none => match toB (ρ x), toB (ρ y), T.get t with
   | some a, some b, some { k := .bool, .. } => match c81 op a b with
    | some (p, v) => some (p, v, [])
    | none => none
   | _, _, _ => match sEq (ρ x) (ρ y) (T.get t) with
    | some b => match c8q op b with
     | some (p, v) => some (p, v, [])
     | none => none
    | none => none
 | .unOp op _ x => match aUn op (ρ x) with
  | some (p, v) => some (p, v, [])
  | none => none
 | .convert src t x => match T.get src, T.get t, ρ x with
  | some _, some { k := .int k, .. }, .val (.int _ n) => some ([], .val (.int k (k.wrap n)), [])
  | _, _, _ => none
 | .fieldAddr t x i => match T.get t, ρ x with
  | some { k := .struct fs, .. }, .ptr b e i' j => match fs[i]? with
   | some (o, sz, _) => bif Nat.blt 0 sz then some ([], .ptr b e i' (j + o), []) else none
   | none => none
  | some { k := .struct fs, .. }, .rptr y i' e x j h => match fs[i]? with
   | some (o, sz, _) => bif Nat.blt 0 sz then some ([], .rptr y i' e x (j + o) h, []) else none
   | none => none
  | _, _ => none
 | .field t x i => match T.get t, ρ x with
  | some { k := .struct fs, .. }, .agg cs => match fs[i]? with
   | some (o, sz, ag) => bif Nat.ble (o + sz) cs.length && (ag || Nat.beq sz 1) then some ([], a9b ag ((range' sz o).map fun m => cs.getD m .dead), []) else none
   | none => none
  | _, _ => none
 | .indexAddr t x ix => match T.get t with
  | some { k := .slice te, .. } => match T.get te with
   | some de => match c4d de.sz (ρ x) (ρ ix) with
    | some (p, v) => some (p, v, [])
    | none => none
   | none => none
  | some { k := .array n te, .. } => match T.get te, ρ x, ρ ix with
   | some de, .ptr b e i 0, .val (.int _ m) => bif Nat.beq e de.sz then some ([0 <= m, m < n], .ptr b e (i + m.toNat) 0, []) else some ([0 <= m, m < n], .ptr b e i (0 + m.toNat * de.sz), [])
   | some de, .val (.pointer (some ⟨g, o, none⟩)), .val (.int _ m) => some ([0 <= m, m < n], .val (.pointer (some ⟨g, o + m.toNat * de.sz, none⟩)), [])
   | _, _, _ => none
  | _ => none
 | .index t x ix => match T.get t, ρ x, ρ ix with
  | some { k := .str, .. }, .val (.string s), .val (.int _ n) => some ([0 <= n, n < s.size], .val (.int .u8 (c5b s n.toNat)), [])
  | some { k := .array n te, .. }, .agg cs, .val (.int _ m) => match T.get te with
   | some de => bif (!de.k.agg && Nat.beq de.sz 1) && Nat.blt m.toNat cs.length then some ([0 <= m, m < n], cs.getD m.toNat .dead, []) else none
   | none => none
  | _, _, _ => none
 | .slice t x lo hi mx => match T.get t with
  | some { k := .slice te, .. } => match T.get te with
   | some de => match c4e de.sz (ρ x) (lo.map ρ) (hi.map ρ) (mx.map ρ) with
    | some (p, v) => some (p, v, [])
    | none => none
   | none => none
  | some { k := .array n te, .. } => match T.get te with
   | some de => match c0o de.sz n (ρ x) (lo.map ρ) (hi.map ρ) (mx.map ρ) with
    | some (p, v) => some (p, v, [])
    | none => none
   | none => none
  | _ => none
 | .build t parts => match T.get t with
  | some { k := .struct fs, zero := z, .. } => match a6c (fun i => (fs[i]?).map fun x => (x.1, x.2.1)) (z.map .val) (parts.toList.map fun x => (x.1, ρ x.2)) with
   | some cs => bif a2a (z.map .val) then some ([], .agg cs, []) else none
   | none => none
  | some { k := .array _ te, zero := z, .. } => match T.get te with
   | some de => match a6c (fun i => some (i * de.sz, de.sz)) (z.map .val) (parts.toList.map fun x => (x.1, ρ x.2)) with
    | some cs => bif a2a (z.map .val) then some ([], .agg cs, []) else none
    | none => none
   | none => none
  | _ => none
 | .buildSlice t len parts => match T.get t with
  | some { k := .slice te, .. } => match T.get te with
   | some de => match a6c (fun i => some (i * de.sz, de.sz)) (a3z de.zero len) (parts.toList.map fun x => (x.1, ρ x.2)) with
    | some cs => bif a2a (de.zero.map .val) && Nat.beq de.zero.length de.sz && Nat.blt 0 de.sz && Nat.ble (len * de.sz) 16777216 then some ([], .sl f de.sz 0 len (some len),
      [(f, .arr true te de.sz len fun i j => cs.getD (i * de.sz + j) .dead)]) else none
    | none => none
   | none => none
  | _ => none
 | .makeSlice t l c => match T.get t, ρ l, ρ c with
  | some { k := .slice te, .. }, .val (.int _ n), .val (.int _ m) => match T.get te with
   | some de => bif a2a (de.zero.map .val) && Nat.beq de.zero.length de.sz && Nat.blt 0 de.sz && Nat.blt 0 de.bytes then some ([0 <= n, n <= m, m * de.bytes <= 140737488355328], .sl f de.sz 0 n.toNat none,
     [(f, .arr true te de.sz n.toNat fun _ j => .val (de.zero.getD j undef))]) else none
   | none => none
  | _, _, _ => none
 | .extract x i => match ρ x with
  | .tup vs => match vs[i]? with
   | some v => some ([], v, [])
   | none => none
  | _ => none
 | .makeMap t r => match r, T.get t with
  | none, some { k := .map kt _, .. } => match c26 T kt with
   | some ka => some ([], .map f, [(f, .map ka [] fun _ => .dead)])
   | none => none
  | _, _ => none
 | .mapUpdate t m k x => match T.get t, ρ m with
  | some { k := .map kt _, .. }, .map b => match (bs b).asMap, c26 T kt with
   | some (ka, ks, c), some ka' => match keyOf ka' (ρ k) with
    | some n => bif c7b ka ka' then some ([], .dead, [(b, .map ka (addKey ks n) (b1x c n (ρ x)))]) else none
    | none => none
   | _, _ => none
  | _, _ => none
 | .insert t m k x => match T.get t, ρ m with
  | some { k := .map kt _, .. }, .map b => match (bs b).asMap, c26 T kt with
   | some (ka, ks, c), some ka' => match keyOf ka' (ρ k) with
    | some n => bif c7b ka ka' then some ([], .dead, [(b, .map ka (addKey ks n) (b1x c n (ρ x)))]) else none
    | none => none
   | _, _ => none
  | _, _ => none
 | .makeInterface t x => match T.get t with
  | some { k := .mptr .., .. } => some ([], .ifc t (ρ x), [])
  | _ => none
 | .typeAssert x _ t true => match T.get t, ρ x with
  | some { k := .mptr .., zero := [z], .. }, .ifc u v => some ([], (match Nat.beq u t with
   | true => .tup [v, .val (.bool true)]
   | false => .tup [.val z, .val (.bool false)]), [])
  | _, _ => none
 | .makeFunc fn first caps => match first.toList with
  | [] => some ([], .fn fn (caps.toList.map ρ), [])
  | x :: r => some ([], .bfn fn ((x :: r).map ρ) (caps.toList.map ρ), [])
 | .call c => match c.callee, c.args.toList, c.argTypes.toList with
  | .builtin .len, [x], [t] => match T.get t, ρ x with
   | some { k := .slice _, .. }, .sl _ _ _ len _ => some ([], .val (.int .i64 len), [])
   | some { k := .slice _, .. }, .rsl _ _ _ len _ => some ([], .val (.int .i64 len), [])
   | some { k := .slice _, .. }, .val (.slice none 0 0) => some ([], .val (.int .i64 0), [])
   | some { k := .map _ _, .. }, .map b => match (bs b).asMap with
    | some (_, ks, _) => some ([], .val (.int .i64 ks.length), [])
    | _ => none
   | _, _ => none
  | .builtin .append, [s, x], [t, t'] => bif Nat.beq t t' then (match T.get t with
   | some { k := .slice te, .. } => match T.get te with
    | some de => b02 de (ρ s) (ρ x) bs f
    | none => none
   | _ => none) else none
  | .builtin .delete, [m, x], t :: _ => match T.get t, ρ m with
   | some { k := .map kt _, .. }, .map b => match (bs b).asMap, c26 T kt with
    | some (ka, ks, c), some ka' => match keyOf ka' (ρ x) with
     | some n => bif c7b ka ka' then some ([], .tup [], [(b, .map ka (ks.erase n) c)]) else none
     | none => none
    | _, _ => none
   | _, _ => none
  | .builtin .max, [x, y], _ => match ρ x, ρ y with
   | .val (.int k a), .val (.int _ b) => some ([], .val (.int k (if b > a then b else a)), [])
   | _, _ => none
  | .builtin .min, [x, y], _ => match ρ x, ρ y with
   | .val (.int k a), .val (.int _ b) => some ([], .val (.int k (if b < a then b else a)), [])
   | _, _ => none
  | _, _, _ => none
 | _ => none
def b8j (T : Tab) (op : Op) (ρ : Operand -> AV) : Option (Bool × Nat) :=
 match op with
 | .binOp .eql t x y _ => match T.get t, ρ x, ρ y with
  | some { k := .slice _, .. }, .sl _ _ _ len _, .val (.slice none 0 0) => some (true, len)
  | some { k := .slice _, .. }, .val (.slice none 0 0), .val (.slice none 0 0) => some (true, 0)
  | _, _, _ => none
 | .binOp .neq t x y _ => match T.get t, ρ x, ρ y with
  | some { k := .slice _, .. }, .sl _ _ _ len _, .val (.slice none 0 0) => some (false, len)
  | some { k := .slice _, .. }, .val (.slice none 0 0), .val (.slice none 0 0) => some (false, 0)
  | _, _, _ => none
 | _ => none
def c7y (p nb : Bool) : AV := match p with | true => .sb nb | false => .sb (!nb)
def c8c (T : Tab) (op : Op) (ρ : Operand -> AV) (bs : Nat -> Blk) : Option CpD := match op with
 | .call c => match c.callee, c.args.toList, c.argTypes.toList with
  | .builtin .copy, [s, x], t :: _ => match T.get t with
   | some { k := .slice te, .. } => match T.get te with
    | some de => c5o de (ρ s) (ρ x) bs
    | none => none
   | _ => none
  | _, _, _ => none
 | _ => none
def c5m (T : Tab) (op : Op) (ρ : Operand -> AV) (bs : Nat -> Blk) : Option (Nat × Option Nat × List (List Int) × (List Int -> AV)) := match op with
 | .range t x => match T.get t, ρ x with
  | some { k := .map _ _, .. }, .map b => match (bs b).asMap with
   | some (ka, ks, c) => some (b, ka, ks, c)
   | none => none
  | _, _ => none
 | _ => none
def b5o (ka : Option Nat) (k : List Int) : AV := match ka with
 | none => .val (.int .i64 (k.headD 0))
 | some _ => .agg (k.map fun n => .val (.int .i64 n))
structure NxtD where
 b : Nat
 m : Nat
 ka : Option Nat
 es : Array MapEntry
 clock : Nat
 S : List (List Int)
 last : Option (List Int)
 ka' : Option Nat
 ks : List (List Int)
 c : List Int -> AV
 es' : Array MapEntry
 clock' : Nat
def b51 (v : AV) (bs : Nat -> Blk) : Option NxtD := match v with
 | .ptr b 1 0 0 => match bs b with
  | .iter m ka es clock S last => match bs m with
   | .mapg ka' ks c es' clock' => some ⟨b, m, ka, es, clock, S, last, ka', ks, c, es', clock'⟩
   | _ => none
  | _ => none
 | _ => none
def c56 (op : Op) (ρ : Operand -> AV) (bs : Nat -> Blk) : Option NxtD := match op with
 | .next x false => b51 (ρ x) bs
 | _ => none
def c44 (op : Op) (ρ : Operand -> AV) (bs : Nat -> Blk) : Option (NxtD × List Int) := match op with
 | .entry x => match b51 (ρ x) bs with
  | some d => match d.last with
   | some k => some (d, k)
   | none => none
  | none => none
 | _ => none
def bump (op : Op) (f : Nat) : Nat := match op with
 | .alloc _ => f + 1
 | .box .. => f + 1
 | .buildSlice .. => f + 1
 | .makeSlice .. => f + 1
 | .makeMap .. => f + 1
 | .range .. => f + 1
 | .call c => match c.callee with
  | .builtin .append => f + 1
  | _ => f
 | _ => f
theorem b0m (op : Op) (f : Nat) : f <= bump op f := by
 unfold bump
 split <;> try omega
 split <;> omega
end Go.Vx
namespace Go.Vx
variable {P : Program}
def Post (ι : Lay) (bs : Nat -> Blk) (f f' : Nat) (w : World) (r : Result Next) (v : AV) (up : List (Nat × Blk)) : Prop :=
  ∃ c w' ι', (r = .ok (.value c) w' \/ (r = .ok .skip w' /\ c = undef)) /\ rel ι' v c /\ Delta ι bs f f' w ι' up w'
theorem Delta.refl {ι : Lay} {bs : Nat -> Blk} {f f' : Nat} {w : World} (hf : ∀ b, f <= b -> b < f' -> ι b = none /\ bs b = .gone) : Delta ι bs f f' w ι [] w where
  ext := fun _ _ => rfl
  br := by rintro b ⟨k, hk⟩; simp at hk
  os := rfl
  tape := rfl
  output := rfl
  size := Nat.le_refl _
  keep := fun _ _ _ => rfl
  lt := fun b l h1 h2 h3 => by rw [(hf b h1 h2).1] at h3; cases h3
  fresh := fun b l h1 h2 _ h3 => by rw [(hf b h1 h2).1] at h3; cases h3
  one := fun b b' l l' h1 h2 _ _ _ _ _ h3 => by rw [(hf b h1 h2).1] at h3; cases h3
  rwn := fun b k hk => by simp at hk
  upr := fun b k hk => by simp at hk
  pl := fun b k hk => by simp at hk
theorem Post.pure {ι : Lay} {bs : Nat -> Blk} {f f' : Nat} {w : World} {r : Result Next} {v : AV} {c : Value} (hf : ∀ b, f <= b -> b < f' -> ι b = none /\ bs b = .gone)
    (hr : r = .ok (.value c) w) (h : rel ι v c) : Post ι bs f f' w r v [] := ⟨c, w, ι, .inl hr, h, .refl hf⟩
theorem a4b (ι : Lay) : ∀ cs : List Value, relL ι (cs.map .val) cs
  | [] => by simp [relL]
  | c :: r => by simp only [List.map_cons, relL]; exact ⟨c, r, rfl, by simp [rel], a4b ι r⟩
theorem a2c {ι : Lay} : ∀ (vs : List AV) (cs : List Value), relL ι vs cs -> vs.length = cs.length
  | [], cs => by simp only [relL]; rintro rfl; rfl
  | v :: vs, cs => by simp only [relL]; rintro ⟨c, r, rfl, _, h⟩; simp [a2c vs r h]
theorem a4i {ι : Lay} : ∀ (vs : List AV) (cs : List Value), relL ι vs cs -> ∀ (i : Nat) (v : AV), vs[i]? = some v -> ∃ c, cs[i]? = some c /\ rel ι v c
  | [], cs, _, i, v, h => by simp at h
  | v :: vs, cs, h, i, u, hu => by
    simp only [relL] at h
    obtain ⟨c, r, rfl, h1, h2⟩ := h
    cases i with
    | zero => simp at hu; subst hu; exact ⟨c, rfl, h1⟩
    | succ i => simpa using a4i vs r h2 i u (by simpa using hu)
theorem a3u {ι : Lay} : ∀ (vs : List AV) (cs : List Value), vs.length = cs.length -> (∀ (i : Nat) (v : AV) (c : Value), vs[i]? = some v -> cs[i]? = some c -> rel ι v c) -> relL ι vs cs
  | [], cs, h, _ => by simp only [relL]; exact List.eq_nil_of_length_eq_zero (by simpa using h.symm)
  | v :: vs, [], h, _ => by simp at h
  | v :: vs, c :: r, h, hg => by
    simp only [relL]
    exact ⟨c, r, rfl, hg 0 v c rfl rfl, a3u vs r (by simpa using h) fun i v' c' h1 h2 => hg (i + 1) v' c' (by simpa using h1) (by simpa using h2)⟩
theorem a2s {ι : Lay} {v : AV} {vs : List AV} {c : Value} {cs : List Value} : relL ι (v :: vs) (c :: cs) ↔ rel ι v c /\ relL ι vs cs := by
  simp only [relL]
  constructor
  · rintro ⟨c', r, h, h1, h2⟩; simp at h; obtain ⟨rfl, rfl⟩ := h; exact ⟨h1, h2⟩
  · rintro ⟨h1, h2⟩; exact ⟨c, cs, rfl, h1, h2⟩
theorem b0f {ι : Lay} {v : AV} {c : Value} (h : rel ι v c) (h1 : a2a v.cells = true) : relL ι v.cells c.cells.toList /\ ∀ u ∈ c.cells.toList, u.oneCell' = true := by
  have plain : ∀ {v : AV} {c : Value}, rel ι v c -> v.one = true -> c.cells = #[c] /\ c.oneCell' = true := by
    intro v c h h1
    cases v with
    | dead => simp [AV.one] at h1
    | val u => simp only [rel] at h; subst h; cases c <;> simp_all [AV.one, Value.cells, Value.oneCell']
    | sb b => simp only [rel] at h; subst h; simp [Value.cells, Value.oneCell']
    | ptr b e i j => simp only [rel] at h; obtain ⟨l, _, rfl⟩ := h; simp [Value.cells, Value.oneCell']
    | sl b e off len cap => simp only [rel] at h; obtain ⟨a, k, rfl, _⟩ := h; simp [Value.cells, Value.oneCell']
    | fn f caps => simp only [rel] at h; obtain ⟨cs, rfl, _⟩ := h; simp [Value.cells, Value.oneCell']
    | bfn f first caps => simp only [rel] at h; obtain ⟨fs, cs, rfl, _⟩ := h; simp [Value.cells, Value.oneCell']
    | agg cs => simp [AV.one] at h1
    | tup cs => simp [AV.one] at h1
    | map b => simp only [rel] at h; obtain ⟨l, _, rfl⟩ := h; simp [Value.cells, Value.oneCell']
    | rsl y i e len u => simp only [rel] at h; obtain ⟨rfl, a, k, rfl, _⟩ := h; simp [Value.cells, Value.oneCell']
    | rptr y i e x j u => simp only [rel] at h; obtain ⟨g, p, len, k, _, rfl⟩ := h; simp [Value.cells, Value.oneCell']
    | ifc t u => simp only [rel] at h; obtain ⟨u, rfl, _⟩ := h; simp [Value.cells, Value.oneCell']
  by_cases ha : ∃ cs, v = .agg cs
  · obtain ⟨cs, rfl⟩ := ha
    simp only [rel] at h
    obtain ⟨us, rfl, h2, h3⟩ := h
    simp only [AV.cells, Value.cells]
    exact ⟨by simpa using h2, by simpa using h3⟩
  · have hc : v.cells = [v] := by
      cases v <;> simp_all [AV.cells]
    rw [hc] at h1 ⊢
    obtain ⟨e1, e2⟩ := plain h (by simpa [a2a] using h1)
    rw [e1]
    refine ⟨by simp only [relL]; exact ⟨c, [], by simp, h, rfl⟩, ?_⟩
    intro u hu
    simp at hu
    rw [hu]; exact e2
theorem a2b {t : TypeId} {d : TyD} (h : a8x P t = some d) : ∃ i u z, P.info? t = some i /\ P.underlying t = some u /\ i.zero = some z /\ d.sz = i.size /\ d.bytes = i.bytes /\ d.zero = z.cells.toList /\
    d.k = (match u with
          | .bool => .bool
          | .string => .str
          | .int k => .int k
          | .slice e => .slice e
          | .struct fs => .struct (fs.toList.map fun f => (f.offset, a2v P f.type, b06 P f.type))
          | .array n e => .array n e
          | .map k e => .map k e
          | .pointer e => c40 P t e
          | _ => .other) /\ a3o P u = true /\ a89 u z = true := by
  unfold a8x at h
  split at h
  · rename_i i u hi hu
    split at h
    · rename_i z hz
      cases hfo : (a3o P u && a89 u z) with
      | false => simp [hfo] at h
      | true =>
      simp only [hfo, Bool.not_true, cond_false, Option.some.injEq] at h
      subst h
      simp only [Bool.and_eq_true] at hfo
      exact ⟨i, u, z, hi, hu, hz, rfl, rfl, rfl, rfl, hfo.1, hfo.2⟩
    · cases h
  · cases h
theorem a68 {t e : TypeId} {k : TK} (h : k = c40 P t e) : k = .ptr e \/ ∃ n g off, k = .mptr e n g off := by
  subst h
  unfold c40
  split
  · split
    · split
      · exact .inr ⟨_, _, _, rfl⟩
      · exact .inl rfl
    · exact .inl rfl
  · exact .inl rfl
theorem b14 (t e : TypeId) : (c40 P t e).agg = false := by
  rcases a68 (P := P) (t := t) (e := e) rfl with h | ⟨_, _, _, h⟩ <;> rw [h] <;> rfl
theorem a7h {t : TypeId} {d : TyD} (h : a8x P t = some d) (w : World) : (isAgg t).run P w = .ok d.k.agg w := by
  obtain ⟨i, u, z, _, hu, _, _, _, _, hk, _⟩ := a2b h
  simp only [isAgg, Sem.run_bind, run_underlying hu, Result.andThen_ok]
  rw [hk]
  cases u <;> first | rfl | (rw [b14]; rfl)
theorem a3v {t : TypeId} {d : TyD} (h : a8x P t = some d) (w : World) : (sizeOf t).run P w = .ok d.sz w := by
  obtain ⟨i, u, z, hi, hu, _, hs, _⟩ := a2b h
  simp [sizeOf, typeInfo, hi, hs]
theorem b2f {t : TypeId} {d : TyD} (h : a8x P t = some d) (w : World) : ∃ z : Value, (zeroValue t).run P w = .ok z w /\ d.zero = z.cells.toList := by
  obtain ⟨i, u, z, hi, hu, hz, _, _, h0, _⟩ := a2b h
  exact ⟨z, by simp [zeroValue, typeInfo, hi, hz], h0⟩
theorem c98 {t : TypeId} {d : TyD} (h : a8x P t = some d) : d.t = t := by
  unfold a8x at h
  split at h
  · split at h
    · rename_i i u hi hu z hz
      revert h
      generalize (a3o P _ && a89 _ _) = q
      cases q with
      | false => intro h; cases h
      | true =>
        intro h
        simp only [Bool.not_true, cond_false, Option.some.injEq] at h
        rw [<- h]
    · cases h
  · cases h
theorem c7v {t : TypeId} {d : TyD} (h : a8x P t = some d) : d.eq = c8f P t := by
  unfold a8x at h
  split at h
  · split at h
    · rename_i i u hi hu z hz
      revert h
      generalize (a3o P _ && a89 _ _) = q
      cases q with
      | false => intro h; cases h
      | true =>
        intro h
        simp only [Bool.not_true, cond_false, Option.some.injEq] at h
        rw [<- h]
    · cases h
  · cases h
theorem c34 {t e : TypeId} {d : TyD} (h : a8x P t = some d) (hk : d.k = .ptr e) : P.underlying t = some (.pointer e) := by
  obtain ⟨i, u, z, _, hu, _, _, _, _, hk', hfo, _⟩ := a2b h
  rw [hk] at hk'
  cases u <;> first
    | (simp at hk'; done)
    | (rename_i e'
       simp only [c40] at hk'
       split at hk'
       · split at hk'
         · split at hk'
           · cases hk'
           · cases hk'; exact hu
         · cases hk'; exact hu
       · cases hk'; exact hu)
theorem b12 {t e : TypeId} {n : String} {g : FuncId} {off : Nat} {d : TyD} (h : a8x P t = some d) (hk : d.k = .mptr e n g off) : P.underlying t = some (.pointer e) /\ b1g P t n = some (g, off) := by
  obtain ⟨i, u, z, _, hu, _, _, _, _, hk', hfo, _⟩ := a2b h
  rw [hk] at hk'
  cases u <;> first
    | (simp at hk'; done)
    | (rename_i e'
       simp only [c40] at hk'
       split at hk'
       · split at hk'
         · split at hk'
           · rename_i g' off' hm
             simp only [TK.mptr.injEq] at hk'
             obtain ⟨rfl, rfl, rfl, rfl⟩ := hk'
             exact ⟨hu, hm⟩
           · cases hk'
         · cases hk'
       · cases hk')
theorem a2r {t e : TypeId} {d : TyD} (h : a8x P t = some d) (hk : d.k = .slice e) : P.underlying t = some (.slice e) := by
  obtain ⟨i, u, z, _, hu, _, _, _, _, hk', hfo, _⟩ := a2b h
  rw [hk] at hk'
  cases u <;> first | (exfalso; rcases a68 hk' with q | ⟨_, _, _, q⟩ <;> cases q; done) | simp at hk'
  subst hk'; exact hu
theorem a9r {t a b : TypeId} {d : TyD} (h : a8x P t = some d) (hk : d.k = .map a b) : P.underlying t = some (.map a b) := by
  obtain ⟨i, u, z, _, hu, _, _, _, _, hk', hfo, _⟩ := a2b h
  rw [hk] at hk'
  cases u <;> first | (exfalso; rcases a68 hk' with q | ⟨_, _, _, q⟩ <;> cases q; done) | simp at hk'
  obtain ⟨rfl, rfl⟩ := hk'; exact hu
theorem b6i {t : TypeId} {k : IntKind} {d : TyD} (h : a8x P t = some d) (hk : d.k = .int k) : P.underlying t = some (.int k) := by
  obtain ⟨i, u, z, _, hu, _, _, _, _, hk', hfo, _⟩ := a2b h
  rw [hk] at hk'
  cases u <;> first | (exfalso; rcases a68 hk' with q | ⟨_, _, _, q⟩ <;> cases q; done) | simp at hk'
  subst hk'; exact hu
theorem c6z {t : TypeId} {d : TyD} (h : a8x P t = some d) (hk : d.k = .str) : P.underlying t = some .string := by
  obtain ⟨i, u, z, _, hu, _, _, _, _, hk', hfo, _⟩ := a2b h
  rw [hk] at hk'
  cases u <;> first | (exfalso; rcases a68 hk' with q | ⟨_, _, _, q⟩ <;> cases q; done) | simp at hk'
  exact hu
theorem c5y {t : TypeId} {d : TyD} (h : a8x P t = some d) (hk : d.k = .bool) : P.underlying t = some .bool := by
  obtain ⟨i, u, z, _, hu, _, _, _, _, hk', hfo, _⟩ := a2b h
  rw [hk] at hk'
  cases u <;> first | (exfalso; rcases a68 hk' with q | ⟨_, _, _, q⟩ <;> cases q; done) | simp at hk'
  exact hu
theorem a6i {t : TypeId} {d : TyD} {fs : List (Nat × Nat × Bool)} (h : a8x P t = some d) (hk : d.k = .struct fs) :
    ∃ fa : Array Field, P.underlying t = some (.struct fa) /\ fs = (fa.toList.map fun f => (f.offset, a2v P f.type, b06 P f.type)) /\ a3o P (.struct fa) = true := by
  obtain ⟨i, u, z, _, hu, _, _, _, _, hk', hfo, _⟩ := a2b h
  rw [hk] at hk'
  cases u <;> first | (exfalso; rcases a68 hk' with q | ⟨_, _, _, q⟩ <;> cases q; done) | simp at hk'
  exact ⟨_, hu, hk', hfo⟩
theorem a4k (n i : Nat) : (range' n i).length = n := by
  induction n generalizing i with
  | zero => rfl
  | succ n ih => simp [range', ih]
theorem a8b (n i m : Nat) (h : m < n) : (range' n i)[m]? = some (i + m) := by
  induction n generalizing i m with
  | zero => omega
  | succ n ih =>
    cases m with
    | zero => simp [range']
    | succ m => simp only [range', List.getElem?_cons_succ]; rw [ih (i + 1) m (by omega)]; congr 1; omega
theorem b91 {ι : Lay} {w : World} {b : Nat} {k : Blk} {e i j sz : Nat} {p : List Prop} {cs : List AV} (hb : BR ι w b k) (hr : a17 k e i j sz = some (p, cs)) (hp : a14 p) :
    ∃ l us, ι b = some l /\ us.length = sz /\ (∀ m u, us[m]? = some u -> w.cell? ((⟨l.g, l.o + (i * e + j), none⟩ : Addr).add m) = some u /\ u.oneCell' = true) /\ relL ι cs us := by
  have hadd : ∀ (g o m : Nat), (⟨g, o, none⟩ : Addr).add m = ⟨g, o + m, none⟩ := fun g o m => by unfold Addr.add; split <;> simp_all
  have key : ∀ (l : Loc) (F : Nat -> AV), (∀ m, m < sz -> ∃ c, w.cell? ⟨l.g, l.o + (i * e + j) + m, none⟩ = some c /\ c.oneCell' = true /\ rel ι (F (j + m)) c) -> ι b = some l -> cs = (range' sz j).map F ->
      ∃ l us, ι b = some l /\ us.length = sz /\ (∀ m u, us[m]? = some u -> w.cell? ((⟨l.g, l.o + (i * e + j), none⟩ : Addr).add m) = some u /\ u.oneCell' = true) /\ relL ι cs us := by
    intro l F h hl hcs
    refine ⟨l, (List.range sz).map fun m => (w.cell? ⟨l.g, l.o + (i * e + j) + m, none⟩).getD undef, hl, by simp, fun m u hu => ?_, ?_⟩
    · have hm : m < sz := by
        rcases Nat.lt_or_ge m sz with h' | h'
        · exact h'
        · rw [List.getElem?_eq_none (by simpa using h')] at hu; cases hu
      obtain ⟨c, h1, h2, _⟩ := h m hm
      rw [List.getElem?_map, List.getElem?_range hm] at hu
      simp only [Option.map_some, h1, Option.getD_some, Option.some.injEq] at hu
      subst hu
      rw [hadd]
      exact ⟨h1, h2⟩
    · rw [hcs]
      refine a3u _ _ (by simp [a4k]) fun m v c hv hc => ?_
      have hm : m < sz := by
        rcases Nat.lt_or_ge m sz with h' | h'
        · exact h'
        · rw [List.getElem?_eq_none (by simpa using h')] at hc; cases hc
      rw [List.getElem?_map, a8b _ _ _ hm] at hv
      rw [List.getElem?_map, List.getElem?_range hm] at hc
      obtain ⟨c', h1, _, h3⟩ := h m hm
      simp only [Option.map_some, h1, Option.getD_some, Option.some.injEq] at hc hv
      subst hc; subst hv
      exact h3
  cases k with
  | gone => simp [a17] at hr
  | map ka ks c => simp [a17] at hr
  | mapg ka ks c es clock => simp [a17] at hr
  | iter m ka es clock S last => simp [a17] at hr
  | fam rw t te e n r o y => simp [a17] at hr
  | row b i => simp [a17] at hr
  | rows rw e n hd r => simp [a17] at hr
  | obj o => simp [a17] at hr
  | var vs =>
    simp only [a17] at hr
    obtain ⟨hq, hr⟩ := a02 hr
    simp only [Prod.mk.injEq] at hr
    obtain ⟨_, rfl⟩ := hr
    simp only [Bool.and_eq_true] at hq
    have h0 := Nat.eq_of_beq_eq_true hq.1
    have hle := Nat.le_of_ble_eq_true hq.2
    subst h0
    obtain ⟨l, C, t, h1, h2, h3, h4⟩ := hb
    refine key l (fun m => vs.getD m .dead) (fun m hm => ?_) h1 rfl
    have hv : vs[j + m]? = some (vs.getD (j + m) .dead) := by
      rw [List.getD_eq_getElem?_getD, List.getElem?_eq_getElem (by omega)]; rfl
    obtain ⟨c, q1, q2, q3⟩ := h4 (j + m) _ hv
    refine ⟨c, ?_, q2, q3⟩
    rw [cell_of_row w l.g _ C t (0, 0) h3, h2.1, <- q1]
    congr 1; omega
  | arr rw t e' n c =>
    simp only [a17] at hr
    obtain ⟨hq, hr⟩ := a02 hr
    simp only [Prod.mk.injEq] at hr
    obtain ⟨rfl, rfl⟩ := hr
    simp only [Bool.and_eq_true] at hq
    have he' := Nat.eq_of_beq_eq_true hq.1
    have hj := Nat.le_of_ble_eq_true hq.2
    subst he'
    obtain ⟨hi, _⟩ := hp
    rcases hb with ⟨h0, _⟩ | ⟨l, h1, h2, h3, h4⟩
    · omega
    · refine key l (fun m => c i m) (fun m hm => ?_) h1 rfl
      obtain ⟨cv, q1, q2, q3⟩ := h3 i hi (j + m) (by omega)
      exact ⟨cv, by rw [<- q1]; congr 2; omega, q2, q3⟩
end Go.Vx
namespace Go.Vx
variable {P : Program}
section
variable {ι : Lay} {bs : Nat -> Blk} {f f' : Nat} {w : World}
theorem c5t {T : Tab} (hT : a2n P T) {t : TypeId} {d : TyD} (ht : T.get t = some d) {b e i j : Nat} {p : List Prop} {cs : List AV} (hf : ∀ b, f <= b -> b < f' -> ι b = none /\ bs b = .gone)
  (hb : BR ι w b (bs b)) (hr : a17 (bs b) e i j d.sz = some (p, cs)) (hp : a14 p) (hs : d.k.agg = true \/ d.sz = 1) {c : Value} (hc : rel ι (.ptr b e i j) c) :
  Post ι bs f f' w ((do pure (.value (<- Instr.loadAt t c)) : Sem Next).run P w) (a9b d.k.agg cs) [] := by
 obtain ⟨l, us, h1, h2, h3, h4⟩ := b91 hb hr hp
 simp only [rel] at hc
 obtain ⟨l', hl', rfl⟩ := hc
 rw [h1] at hl'; cases hl'
 have htk := Tab.get_ok hT ht
 have hrun := run_loadCells_list (P := P) w (⟨l.g, l.o + (i * e + j), none⟩ : Addr) us (fun m u hu => (h3 m u hu).1)
 rw [h2] at hrun
 cases ha : d.k.agg with
 | true =>
  refine Post.pure hf (c := .agg us.toArray) ?_ ?_
  ·simp [Instr.loadAt, Instr.sureAddr, loadVar, a7h htk, a3v htk, ha, hrun]
  ·simp only [a9b, rel]
   exact ⟨us, rfl, h4, fun u hu => by obtain ⟨m, hm⟩ := List.mem_iff_getElem?.1 hu; exact (h3 m u hm).2⟩
 | false =>
  have h1z : d.sz = 1 := by simpa [ha] using hs
  match us, h2.trans h1z with
  | [u], _ =>
   refine Post.pure hf (c := u) ?_ ?_
   ·have hcell := (h3 0 u rfl).1
    rw [Addr.add_zero'] at hcell
    simp [Instr.loadAt, Instr.sureAddr, loadVar, a7h htk, ha, hcell]
   ·match cs, a2c _ _ h4 with
    | [v], _ => exact (a2s.1 h4).1
theorem c2y {T : Tab} (hT : a2n P T) {t : TypeId} {d : TyD} (ht : T.get t = some d) {y i e x j : Nat} {h : Value} {p : List Prop} {cs : List AV} (hf : ∀ b, f <= b -> b < f' -> ι b = none /\ bs b = .gone)
  (hb : BR ι w y (bs y)) (hr : b4p (bs y) i e x j h d.sz = some (p, cs)) (hp : a14 p) (hs : d.k.agg = true \/ d.sz = 1) {c : Value} (hc : rel ι (.rptr y i e x j h) c) :
  Post ι bs f f' w ((do pure (.value (<- Instr.loadAt t c)) : Sem Next).run P w) (a9b d.k.agg cs) [] := by
 unfold b4p at hr
 split at hr
 ·rename_i rw e' n hd r hbb
  obtain ⟨hq, hr⟩ := a02 hr
  simp only [Prod.mk.injEq] at hr
  obtain ⟨rfl, rfl⟩ := hr
  simp only [Bool.and_eq_true] at hq
  have he := Nat.eq_of_beq_eq_true hq.1
  subst he
  have hle := Nat.le_of_ble_eq_true hq.2
  obtain ⟨p1, p2, p3, _⟩ := hp
  rw [hbb] at hb
  rcases hb with ⟨h0, _⟩ | ⟨l, _, hR⟩
  ·omega
  obtain ⟨a, k, q1, q2, q3⟩ := hR i p1
  simp only [rel] at hc
  obtain ⟨g, p0, len, k', hh, rfl⟩ := hc
  rw [p2, q1] at hh
  simp only [Value.slice.injEq] at hh
  obtain ⟨rfl, _, rfl⟩ := hh
  obtain ⟨g', p', e1, _, e3⟩ := q3 (by omega)
  simp only [Option.some.injEq, Addr.mk.injEq, and_true] at e1
  obtain ⟨rfl, rfl⟩ := e1
  have htk := Tab.get_ok hT ht
  have hcell : ∀ m, m < d.sz -> w.cell? ((⟨g, p0 + (x * e' + j), none⟩ : Addr).add m) = some (.int .i64 ((r i).2 x (j + m))) := fun m hm => by
   have := e3 x p3 (j + m) (by omega)
   have hadd : (⟨g, p0 + (x * e' + j), none⟩ : Addr).add m = ⟨g, p0 + (x * e' + (j + m)), none⟩ := by
    have e0 : p0 + (x * e' + (j + m)) = p0 + (x * e' + j) + m := by omega
    rw [e0]
    unfold Addr.add; split <;> simp_all
   rw [hadd]; exact this
  have hrun := run_loadCells_list (P := P) w (⟨g, p0 + (x * e' + j), none⟩ : Addr) ((List.range d.sz).map fun m => Value.int .i64 ((r i).2 x (j + m))) (fun m u hu => by
   rw [List.getElem?_map] at hu
   by_cases hm : m < d.sz
   ·rw [List.getElem?_range hm] at hu
    simp only [Option.map_some, Option.some.injEq] at hu
    rw [<- hu]; exact hcell m hm
   ·rw [List.getElem?_eq_none (by simpa using hm)] at hu; cases hu)
  have hlen : ((List.range d.sz).map fun m => Value.int .i64 ((r i).2 x (j + m))).length = d.sz := by simp
  rw [hlen] at hrun
  have h4 : relL ι ((range' d.sz j).map fun m => AV.val (.int .i64 ((r i).2 x m))) ((List.range d.sz).map fun m => Value.int .i64 ((r i).2 x (j + m))) := by
   refine a3u _ _ (by simp [a4k]) fun m v c hv hcc => ?_
   have hm : m < d.sz := by
    rcases Nat.lt_or_ge m d.sz with h' | h'
    ·exact h'
    ·rw [List.getElem?_eq_none (by simpa using h')] at hcc; cases hcc
   rw [List.getElem?_map, a8b _ _ _ hm] at hv
   rw [List.getElem?_map, List.getElem?_range hm] at hcc
   simp only [Option.map_some, Option.some.injEq] at hcc hv
   subst hcc; subst hv
   simp only [rel]
  cases ha : d.k.agg with
  | true =>
   refine Post.pure hf (c := .agg ((List.range d.sz).map fun m => Value.int .i64 ((r i).2 x (j + m))).toArray) ?_ ?_
   ·simp only [Instr.loadAt, Instr.sureAddr, loadVar, Sem.run_bind, a7h htk, a3v htk, ha, hrun, Result.andThen_ok, Sem.run_pure, if_true]
   ·simp only [a9b, rel]
    exact ⟨_, rfl, h4, fun u hu => by
     rw [List.mem_map] at hu
     obtain ⟨m, _, rfl⟩ := hu
     rfl⟩
  | false =>
   have h1z : d.sz = 1 := by simpa [ha] using hs
   have hc0 := hcell 0 (by omega)
   rw [Addr.add_zero'] at hc0
   rw [h1z] at h4 ⊢
   refine Post.pure hf (c := .int .i64 ((r i).2 x j)) ?_ ?_
   ·simp [Instr.loadAt, Instr.sureAddr, loadVar, a7h htk, ha, hc0]
   ·simp only [range', List.map_cons, List.map_nil, a9b, List.headD_cons, rel]
 ·cases hr
theorem a88 : ∀ (cs vs : List AV), (b2q cs vs).length = cs.length
 | [], _ => rfl
 | _ :: _, [] => rfl
 | _ :: cs, _ :: vs => by simp [b2q, a88 cs vs]
theorem b31 : ∀ (cs vs : List AV) (m : Nat), vs.length <= cs.length -> (b2q cs vs)[m]? = if m < vs.length then vs[m]? else cs[m]?
 | [], [], m, _ => by simp [b2q]
 | [], v :: vs, m, h => by simp at h
 | c :: cs, [], m, _ => by simp [b2q]
 | c :: cs, v :: vs, m, h => by
  simp only [List.length_cons] at h ⊢
  cases m with
  | zero => simp [b2q]
  | succ m =>
   simp only [b2q, List.getElem?_cons_succ]
   rw [b31 cs vs m (by omega)]
   by_cases hm : m < vs.length
   ·rw [if_pos hm, if_pos (by omega)]
   ·rw [if_neg hm, if_neg (by omega)]
theorem a86 : ∀ (cs : List AV) (j : Nat) (vs : List AV), (setCells cs j vs).length = cs.length
 | [], _, _ => by simp [setCells]
 | c :: cs, 0, vs => by simp only [setCells]; exact a88 _ _
 | c :: cs, j + 1, vs => by simp [setCells, a86 cs j vs]
theorem b0s (vs cs : List AV) (j : Nat) : (setCells cs j vs).length = cs.length := a86 cs j vs
theorem a7n : ∀ (cs : List AV) (j : Nat) (vs : List AV) (m : Nat), j + vs.length <= cs.length -> (setCells cs j vs)[m]? = if j <= m /\ m < j + vs.length then vs[m - j]? else cs[m]?
 | [], j, vs, m, h => by
  simp only [List.length_nil] at h
  simp only [setCells]
  rw [if_neg (by omega)]
 | c :: cs, 0, vs, m, h => by
  simp only [setCells]
  rw [b31 _ _ _ (by omega)]
  by_cases hm : m < vs.length
  ·rw [if_pos hm, if_pos (by omega), Nat.sub_zero]
  ·rw [if_neg hm, if_neg (by omega)]
 | c :: cs, j + 1, vs, m, h => by
  simp only [List.length_cons] at h
  simp only [setCells]
  cases m with
  | zero => rw [if_neg (by omega)]; simp
  | succ m =>
   simp only [List.getElem?_cons_succ]
   rw [a7n cs j vs m (by omega)]
   by_cases hm : j <= m /\ m < j + vs.length
   ·rw [if_pos hm, if_pos (by omega)]; congr 1; omega
   ·rw [if_neg hm, if_neg (by omega)]
theorem a83 (vs cs : List AV) (j m : Nat) (h : j + vs.length <= cs.length) : (setCells cs j vs)[m]? = if j <= m /\ m < j + vs.length then vs[m - j]? else cs[m]? := a7n cs j vs m h
theorem c2v {k k' : Blk} {e i j : Nat} {vs : List AV} {p : List Prop} (h : a03 k e i j vs = some (p, k')) : k'.rw = true := by
 cases k with
 | gone => simp [a03] at h
 | map ka ks c => simp [a03] at h
 | mapg ka ks c es clock => simp [a03] at h
 | iter m ka es clock S last => simp [a03] at h
 | fam rw t te e n r o y => simp [a03] at h
 | row b i => simp [a03] at h
 | rows rw e n hd r => simp [a03] at h
 | obj o => simp [a03] at h
 | var cs =>
  simp only [a03] at h
  obtain ⟨_, h⟩ := a02 h
  simp only [Prod.mk.injEq] at h
  rw [<- h.2]; rfl
 | arr rw t e' n c =>
  simp only [a03] at h
  obtain ⟨hh, h⟩ := a02 h
  simp only [Prod.mk.injEq] at h
  simp only [Bool.and_eq_true] at hh
  rw [<- h.2]; exact hh.1.2
theorem b0r {k k' : Blk} {e i j : Nat} {vs : List AV} {p : List Prop} (h : a03 k e i j vs = some (p, k')) : k.plain = true /\ k'.plain = true := by
 cases k with
 | var cs =>
  simp only [a03] at h
  obtain ⟨_, h⟩ := a02 h
  simp only [Prod.mk.injEq] at h
  rw [<- h.2]; exact ⟨rfl, rfl⟩
 | arr rw t e' n c =>
  simp only [a03] at h
  obtain ⟨hh, h⟩ := a02 h
  simp only [Prod.mk.injEq] at h
  rw [<- h.2]; exact ⟨rfl, rfl⟩
 | _ => simp [a03] at h
theorem b25 {T : Tab} (hT : a2n P T) {t : TypeId} {d : TyD} (ht : T.get t = some d) {b e i j : Nat} {p : List Prop} {k : Blk} {v : AV} (hf : ∀ b, f <= b -> b < f' -> ι b = none /\ bs b = .gone)
  (hb : BR ι w b (bs b)) (hlt : ∀ l, ι b = some l -> l.g < w.heap.size) (hr : a03 (bs b) e i j v.cells = some (p, k)) (hp : a14 p) (hs : v.cells.length = d.sz) (h1 : a2a v.cells = true)
  {c u : Value} (hc : rel ι (.ptr b e i j) c) (hu : rel ι v u) :
  Post ι bs f f' w ((do Instr.storeAt t c u; pure .skip : Sem Next).run P w) .dead [(b, k)] := by
 have htk := Tab.get_ok hT ht
 obtain ⟨hcr, hone⟩ := b0f hu h1
 have hlen := a2c _ _ hcr
 simp only [rel] at hc
 obtain ⟨l, hl, rfl⟩ := hc
 have hbf : b < f \/ f' <= b := by
  rcases Nat.lt_or_ge b f with h | h
  ·exact .inl h
  ·rcases Nat.lt_or_ge b (f') with h' | h'
   ·have := (hf b h h').1; rw [this] at hl; cases hl
   ·exact .inr h'
 have hbrw : (bs b).rw = true := by
  cases hbb : bs b with
  | gone => simp [hbb, a03] at hr
  | map ka ks c => simp [hbb, a03] at hr
  | mapg ka ks c es clock => simp [hbb, a03] at hr
  | iter m ka es clock S last => simp [hbb, a03] at hr
  | fam rw t te e n r o y => simp [hbb, a03] at hr
  | row b i => simp [hbb, a03] at hr
  | rows rw e n hd r => simp [hbb, a03] at hr
  | obj o => simp [hbb, a03] at hr
  | var cs => rfl
  | arr rw t e' n c =>
   simp only [hbb, a03] at hr
   obtain ⟨h, _⟩ := a02 hr
   simp only [Bool.and_eq_true] at h; exact h.1.2
 obtain ⟨C, t', o, hg, hol, hfit, hnew⟩ : ∃ (C : Array Value) (t' : TypeId) (o : Nat), w.heap[l.g]? = some (.cells C t' (0, 0)) /\ l.o + (i * e + j) = o /\ o + u.cells.toList.length <= C.size /\
   ∀ w', w'.heap[l.g]? = some (.cells (C.toList.take o ++ u.cells.toList ++ C.toList.drop (o + u.cells.toList.length)).toArray t' (0, 0)) -> BR ι w' b k := by
  have hnth : ∀ (C : Array Value) (o m : Nat), o + u.cells.toList.length <= C.size ->
    (C.toList.take o ++ u.cells.toList ++ C.toList.drop (o + u.cells.toList.length)).toArray[m]? = if o <= m /\ m < o + u.cells.toList.length then u.cells.toList[m - o]? else C[m]? := by
   intro C o m h
   rw [List.getElem?_toArray]
   have hto : (C.toList.take o).length = o := by rw [List.length_take, Array.length_toList]; omega
   by_cases h1 : m < o
   ·rw [if_neg (by omega), List.getElem?_append_left (by rw [List.length_append, hto]; omega), List.getElem?_append_left (by omega), List.getElem?_take_of_lt h1]
    simp
   ·by_cases h2 : m < o + u.cells.toList.length
    ·rw [if_pos ⟨by omega, h2⟩, List.getElem?_append_left (by rw [List.length_append, hto]; omega), List.getElem?_append_right (by omega), hto]
    ·rw [if_neg (by omega), List.getElem?_append_right (by rw [List.length_append, hto]; omega), List.getElem?_drop, List.length_append, hto]
     rw [show o + u.cells.toList.length + (m - (o + u.cells.toList.length)) = m from by omega]
     simp
  cases hbb : bs b with
  | gone => simp [hbb, a03] at hr
  | map ka ks c => simp [hbb, a03] at hr
  | mapg ka ks c es clock => simp [hbb, a03] at hr
  | iter m ka es clock S last => simp [hbb, a03] at hr
  | fam rw t te e n r o y => simp [hbb, a03] at hr
  | row b i => simp [hbb, a03] at hr
  | rows rw e n hd r => simp [hbb, a03] at hr
  | obj o => simp [hbb, a03] at hr
  | var vs =>
   simp only [hbb, a03] at hr
   obtain ⟨hq, hr⟩ := a02 hr
   simp only [Prod.mk.injEq] at hr
   obtain ⟨_, rfl⟩ := hr
   simp only [Bool.and_eq_true] at hq
   have h0 := Nat.eq_of_beq_eq_true hq.1
   have hle := Nat.le_of_ble_eq_true hq.2
   subst h0
   rw [hbb] at hb
   obtain ⟨l', C, t', h2, h3, h4, h5⟩ := hb
   rw [hl] at h2; cases h2
   have hsz : vs.length <= C.size := by
    rcases Nat.eq_zero_or_pos vs.length with h | h
    ·omega
    ·obtain ⟨c, q, _⟩ := h5 (vs.length - 1) vs[vs.length - 1] (List.getElem?_eq_getElem (by omega))
     have := (Array.getElem?_eq_some_iff.1 q).1
     omega
   refine ⟨C, t', j, h4, by omega, by omega, fun w' hw' => ⟨l, _, t', hl, h3, hw', fun m v' hv' => ?_⟩⟩
   rw [a83 _ _ _ _ hle] at hv'
   rw [hnth C j m (by omega)]
   by_cases hm : j <= m /\ m < j + v.cells.length
   ·rw [if_pos hm] at hv'
    rw [if_pos (by omega)]
    obtain ⟨c, q1, q2⟩ := a4i _ _ hcr _ _ hv'
    exact ⟨c, q1, hone c (List.mem_of_getElem? q1), q2⟩
   ·rw [if_neg hm] at hv'
    rw [if_neg (by omega)]
    exact h5 m v' hv'
  | arr rw t0 e' n F =>
   simp only [hbb, a03] at hr
   have hq := a02 hr
   clear hr
   obtain ⟨h, hr⟩ := hq
   ·simp only [Prod.mk.injEq] at hr
    simp only [Bool.and_eq_true] at h
    have he := Nat.eq_of_beq_eq_true h.1.1
    have hj := Nat.le_of_ble_eq_true h.2
    have h := h.1
    subst he
    obtain ⟨rfl, rfl⟩ := hr
    obtain ⟨hi, _⟩ := hp
    rw [hbb] at hb
    rcases hb with ⟨h0, _⟩ | ⟨l', h2, h3, h4, h5⟩
    ·omega
    ·rw [hl] at h2; cases h2
     obtain ⟨hmx, C, qq, ho, hC, hCs⟩ := h5 h.2
     have hmul : (i + 1) * e' <= l.n * e' := Nat.mul_le_mul_right _ (by omega)
     have hfit : l.o + (i * e' + j) + u.cells.toList.length <= C.size := by rw [hCs, Nat.add_mul]; rw [Nat.add_mul] at hmul; omega
     refine ⟨C, t0, l.o + (i * e' + j), hC, by omega, hfit, fun w' hw' => .inr ⟨l, hl, h3, fun i' hi' j' hj' => ?_, fun _ => ⟨hmx, _, qq, ho, hw', ?_⟩⟩⟩
     ·obtain ⟨cv, q1, q2, q3⟩ := h4 i' hi' j' hj'
      rw [cell_of_row w l.g _ C t0 (0, 0) hC] at q1
      rw [cell_of_row w' l.g _ _ t0 (0, 0) hw', hnth C _ _ hfit]
      by_cases hcase : i' = i /\ j <= j' /\ j' < j + v.cells.length
      ·obtain ⟨rfl, hj1, hj2⟩ := hcase
       rw [if_pos (by omega)]
       have hx : v.cells[j' - j]? = some (v.cells.getD (j' - j) .dead) := by
        rw [List.getD_eq_getElem?_getD, List.getElem?_eq_getElem (by omega)]; rfl
       obtain ⟨c, q4, q5⟩ := a4i _ _ hcr _ _ hx
       refine ⟨c, by rw [<- q4]; congr 1; omega, hone c (List.mem_of_getElem? q4), ?_⟩
       simp only [Nat.beq_refl, Bool.true_and]
       rw [show (Nat.ble j j' && Nat.blt j' (j + v.cells.length)) = true from by simp [Nat.blt, hj1]; omega]
       exact q5
      ·have hno : ¬ (l.o + (i * e' + j) <= l.o + (i' * e' + j') /\ l.o + (i' * e' + j') < l.o + (i * e' + j) + u.cells.toList.length) := by
        rintro ⟨ha, hb⟩
        apply hcase
        have hii : i' = i := by
         rcases Nat.lt_trichotomy i' i with hx | hx | hx
         ·have : (i' + 1) * e' <= i * e' := Nat.mul_le_mul_right _ hx
          rw [Nat.add_mul] at this; omega
         ·exact hx
         ·have : (i + 1) * e' <= i' * e' := Nat.mul_le_mul_right _ hx
          rw [Nat.add_mul] at this; omega
        subst hii
        omega
       rw [if_neg hno]
       refine ⟨cv, q1, q2, ?_⟩
       have hb : (Nat.beq i' i && (Nat.ble j j' && Nat.blt j' (j + v.cells.length))) = false := by
        rw [Bool.eq_false_iff]
        intro hh
        simp only [Bool.and_eq_true, Nat.blt, Nat.ble_eq] at hh
        exact hcase ⟨Nat.eq_of_beq_eq_true hh.1, hh.2.1, by omega⟩
       simp only [hb, cond_false]
       exact q3
     ·simp only [List.size_toArray, List.length_append, List.length_take, List.length_drop, Array.length_toList] at hfit ⊢
      omega
 have hst := run_storeCells_at P l.g o t' u.cells.toList 0 C w hg (by simpa using hfit) hone
 simp only [Nat.add_zero] at hst
 have hsize : u.cells.size = d.sz := by rw [<- hs, hlen]; simp
 have hrun : ((do Instr.storeAt t (.pointer (some ⟨l.g, l.o + (i * e + j), none⟩)) u; pure .skip : Sem Next).run P w) =
   .ok .skip (w.setRow l.g (C.toList.take o ++ u.cells.toList ++ C.toList.drop (o + u.cells.toList.length)).toArray) := by
  simp only [Instr.storeAt, Instr.sureAddr, storeVar, Sem.run_bind, Sem.run_pure, Result.andThen_ok, a3v htk]
  rw [if_neg (by simp [hsize])]
  simp only [hol, hst, Result.andThen_ok]
 refine ⟨undef, _, ι, .inr ⟨hrun, rfl⟩, by simp [rel], ?_⟩
 ·have hsl : ∀ b, f <= b -> b < f' -> ι b = none := fun b h1 h2 => (hf b h1 h2).1
  exact {
   ext := fun _ _ => rfl
   br := by
    rintro b' ⟨k', hk'⟩
    simp only [List.mem_singleton, Prod.mk.injEq] at hk'
    obtain ⟨rfl, rfl⟩ := hk'
    rw [a0p]
    exact hnew _ (setRow_heap w l.g C _ t' (0, 0) hg)
   os := rfl
   tape := rfl
   output := rfl
   size := by simp [World.setRow]
   keep := fun g _ hk => setRow_other w l.g g _ (fun e => hk b k l (by simp) hbrw hl e.symm)
   lt := fun b' l' q1 q2 q3 => by rw [hsl b' q1 q2] at q3; cases q3
   fresh := fun b' l' q1 q2 _ q3 => by rw [hsl b' q1 q2] at q3; cases q3
   one := fun b' b2 l' l2 q1 q2 _ _ _ _ _ q3 => by rw [hsl b' q1 q2] at q3; cases q3
   rwn := by
    intro b' k' hk' _
    simp only [List.mem_singleton, Prod.mk.injEq] at hk'
    rw [hk'.2]
    exact c2v hr
   upr := by
    intro b' k' hk'
    simp only [List.mem_singleton, Prod.mk.injEq] at hk'
    obtain ⟨rfl, rfl⟩ := hk'
    exact .inr hbrw
   pl := by
    intro b' k' hk'
    simp only [List.mem_singleton, Prod.mk.injEq] at hk'
    obtain ⟨rfl, rfl⟩ := hk'
    exact ⟨(b0r hr).2, .inr (b0r hr).1⟩ }
theorem a8d (hf : ∀ b, f <= b -> b < f' -> ι b = none /\ bs b = .gone) (hff : f < f') (C : Array Value) (t : TypeId) (n : Nat) (k : Blk) (hkr : k.rw = true) (hkp : k.plain = true)
  (hbr : ∀ ι' w', ι' f = some ⟨w.heap.size, 0, n⟩ -> Ext ι ι' -> w'.heap[w.heap.size]? = some (.cells C t (0, 0)) -> BR ι' w' f k) {v : AV} {c : Value}
  (hv : ∀ ι', ι' f = some ⟨w.heap.size, 0, n⟩ -> Ext ι ι' -> rel ι' v c) {r : Result Next} {w1 : World} (hw1 : w1.heap = w.heap /\ w1.os = w.os /\ w1.tape = w.tape /\ w1.output = w.output) (hr : r = .ok (.value c) (w1.alloc (.cells C t))) :
  Post ι bs f f' w r v [(f, k)] := by
 let ι' : Lay := fun x => if x = f then some ⟨w.heap.size, 0, n⟩ else ι x
 have hself : ι' f = some ⟨w.heap.size, 0, n⟩ := by simp [ι']
 have hoth : ∀ x, x ≠ f -> ι' x = ι x := fun x hx => by simp [ι', hx]
 have hext : Ext ι ι' := fun b l hl => by
  by_cases hb : b = f
  ·subst hb; have := (hf b (by omega) (by omega)).1; rw [this] at hl; cases hl
  ·rw [hoth b hb]; exact hl
 have hnew : (w1.alloc (.cells C t)).heap[w.heap.size]? = some (Obj.cells C t (0, 0)) := by rw [<- hw1.1]; exact heap_alloc_new w1 _
 have hsize : (w1.alloc (.cells C t)).heap.size = w.heap.size + 1 := by rw [<- hw1.1]; simp
 refine ⟨c, _, ι', .inl hr, hv ι' hself hext, ?_⟩
 exact {
  ext := fun b hb => hoth b (by omega)
  br := by
   rintro b' ⟨k', hk'⟩
   simp only [List.mem_singleton, Prod.mk.injEq] at hk'
   obtain ⟨rfl, rfl⟩ := hk'
   rw [a0p]
   exact hbr ι' _ hself hext hnew
  os := hw1.2.1
  tape := hw1.2.2.1
  output := hw1.2.2.2
  size := by rw [hsize]; omega
  keep := fun g hg _ => by
   have := RowKit.Below.heap_alloc w1 (.cells C t) g (by rw [hw1.1]; exact hg)
   rw [this, hw1.1]
  lt := fun b l h1 h2 h3 => by
   by_cases hb : b = f
   ·subst hb; rw [hself] at h3; cases h3; rw [hsize]; exact Nat.lt_succ_self _
   ·rw [hoth b hb, (hf b h1 h2).1] at h3; cases h3
  fresh := fun b l h1 h2 _ h3 => by
   by_cases hb : b = f
   ·subst hb; rw [hself] at h3; cases h3; exact .inl (Nat.le_refl _)
   ·rw [hoth b hb, (hf b h1 h2).1] at h3; cases h3
  rwn := by
   intro b' k' hk' _
   simp only [List.mem_singleton, Prod.mk.injEq] at hk'
   rw [hk'.2]; exact hkr
  one := fun b b' l l' h1 h2 h3 h4 hne _ _ h5 h6 => by
   by_cases hb : b = f
   ·rw [hoth b' (by omega), (hf b' h3 h4).1] at h6; cases h6
   ·rw [hoth b hb, (hf b h1 h2).1] at h5; cases h5
  upr := by
   intro b' k' hk'
   simp only [List.mem_singleton, Prod.mk.injEq] at hk'
   exact .inl (by omega)
  pl := by
   intro b' k' hk'
   simp only [List.mem_singleton, Prod.mk.injEq] at hk'
   exact ⟨by rw [hk'.2]; exact hkp, .inl (by omega)⟩ }
end
end Go.Vx
namespace Go.Vx
variable {P : Program}
theorem a34 (g o m : Nat) : (⟨g, o, none⟩ : Addr).add m = ⟨g, o + m, none⟩ := by unfold Addr.add; split <;> simp_all
section
variable {ι : Lay} {bs : Nat -> Blk} {f f' : Nat} {w : World}
structure Src (ι : Lay) (w : World) (sz : Nat) (A : Option Addr) (n : Nat) (news : List Value) (c : Nat -> Nat -> AV) : Prop where
 len : news.length = n * sz
 at_ : 0 < n -> ∃ ad, A = some ad
 cell : ∀ ad, A = some ad -> ∀ j u, news[j]? = some u -> w.cell? (ad.add j) = some u
 one : ∀ u ∈ news, u.oneCell' = true
 rel : ∀ i, i < n -> ∀ j, j < sz -> ∃ u, news[i * sz + j]? = some u /\ rel ι (c i j) u
theorem b48 {b : Nat} {rw : Bool} {t e m : Nat} {c : Nat -> Nat -> AV} (hb : BR ι w b (.arr rw t e m c)) {off n : Nat} (h : off + n <= m) {a : Option Addr} {k : Nat} (hn : n <= k)
  (ha : 0 < k -> ∃ l, ι b = some l /\ a = some ⟨l.g, l.o + off * e, none⟩) : ∃ news, Src ι w e a n news (fun i j => c (off + i) j) := by
 rcases Nat.eq_zero_or_pos n with h0 | h0
 ·subst h0
  exact ⟨[], ⟨by simp, (fun h => absurd h (by omega)), (fun _ _ j u hu => by simp at hu), (fun u hu => by simp at hu), (fun i hi => absurd hi (by omega))⟩⟩
 obtain ⟨l, hl, rfl⟩ := ha (by omega)
 rcases hb with ⟨h1, _⟩ | ⟨l', h1, h2, h3, _⟩
 ·omega
 rw [hl] at h1; cases h1
 have key : ∀ q, q < n * e -> ∃ u, w.cell? ⟨l.g, l.o + off * e + q, none⟩ = some u /\ u.oneCell' = true /\ rel ι (c (off + q / e) (q % e)) u := by
  intro q hq
  have he : 0 < e := by rcases Nat.eq_zero_or_pos e with h | h; subst h; simp at hq; exact h
  have h4 : q / e < n := (Nat.div_lt_iff_lt_mul he).2 hq
  obtain ⟨cv, q1, q2, q3⟩ := h3 (off + q / e) (by omega) (q % e) (Nat.mod_lt _ he)
  refine ⟨cv, ?_, q2, q3⟩
  rw [<- q1]
  have := Nat.div_add_mod q e
  rw [Nat.add_mul]
  congr 2
  rw [Nat.mul_comm] at this
  omega
 refine ⟨(List.range (n * e)).map fun q => (w.cell? ⟨l.g, l.o + off * e + q, none⟩).getD undef, by simp, fun _ => ⟨_, rfl⟩, fun ad had j u hu => ?_, fun u hu => ?_, fun i hi j hj => ?_⟩
 ·cases had
  have hj : j < n * e := by
   rcases Nat.lt_or_ge j (n * e) with h | h
   ·exact h
   ·rw [List.getElem?_eq_none (by simpa using h)] at hu; cases hu
  obtain ⟨u', q1, _⟩ := key j hj
  rw [List.getElem?_map, List.getElem?_range hj] at hu
  simp only [Option.map_some, q1, Option.getD_some, Option.some.injEq] at hu
  subst hu
  rw [a34]; exact q1
 ·obtain ⟨q, hq, rfl⟩ := List.mem_map.1 hu
  obtain ⟨u', q1, q2, _⟩ := key q (List.mem_range.1 hq)
  rw [q1]; exact q2
 ·have hq : i * e + j < n * e := by
   have : (i + 1) * e <= n * e := Nat.mul_le_mul_right _ hi
   rw [Nat.add_mul] at this; omega
  have he : 0 < e := by omega
  obtain ⟨u', q1, _, q3⟩ := key _ hq
  refine ⟨u', by rw [List.getElem?_map, List.getElem?_range hq]; simp [q1], ?_⟩
  rw [Nat.mul_comm i e, Nat.mul_add_div he, Nat.div_eq_of_lt hj, Nat.mul_add_mod, Nat.mod_eq_of_lt hj] at q3
  exact q3
theorem b53 {sz : Nat} {x : AV} {c : Value} (hx : rel ι x c) (hb : ∀ b, BR ι w b (bs b)) {p : List Prop} {n : Nat} {F : Nat -> Nat -> AV} (h : b3l sz x bs = some (p, n, F)) (hp : a14 p) :
  ∃ A k news, c = .slice A n k /\ Src ι w sz A n news F := by
 unfold b3l at h
 split at h
 ·simp only [Option.some.injEq, Prod.mk.injEq] at h
  obtain ⟨rfl, rfl, rfl⟩ := h
  simp only [rel] at hx
  subst hx
  exact ⟨none, 0, [], rfl, ⟨by simp, (fun h => absurd h (by omega)), (fun _ h => by cases h), (fun u hu => by simp at hu), (fun i hi => absurd hi (by omega))⟩⟩
 ·rename_i b e off n' cap
  split at h
  ·rename_i rw t e' m c0 hbb
   cases hq : Nat.beq e' sz && Nat.beq e sz with
   | false => simp [hq] at h
   | true =>
    simp only [hq, cond_true, Option.some.injEq, Prod.mk.injEq] at h
    obtain ⟨rfl, rfl, rfl⟩ := h
    simp only [Bool.and_eq_true] at hq
    have e1 := Nat.eq_of_beq_eq_true hq.1
    have e2 := Nat.eq_of_beq_eq_true hq.2
    subst e1; subst e2
    simp only [rel] at hx
    obtain ⟨a, k, rfl, h1, _, h3⟩ := hx
    have := hb b
    rw [hbb] at this
    obtain ⟨news, hs⟩ := b48 this hp.1 h1 (fun hk => by obtain ⟨l, q1, q2, _⟩ := h3 hk; exact ⟨l, q1, q2⟩)
    exact ⟨a, k, news, rfl, hs⟩
  ·cases h
 ·cases h
theorem c4f {ι' : Lay} {w' : World} {g cap sz t len n q0 : Nat} {c0 c : Nat -> Nat -> AV} {pre olds news rest : List Value} {C : Array Value} (hf : ι' f = some ⟨g, q0 * sz, cap⟩) (hpre : pre.length = q0 * sz) (hC : w'.heap[g]? = some (.cells C t (0, 0)))
  (hcap : len + n <= cap) (hmx : cap <= maxLen) (hsz : C.size = (q0 + cap) * sz) (hcs : C.toList = pre ++ (olds ++ news ++ rest)) (hlo : olds.length = len * sz) (hln : news.length = n * sz)
  (ho : ∀ u ∈ olds, u.oneCell' = true) (hn : ∀ u ∈ news, u.oneCell' = true)
  (hro : ∀ i, i < len -> ∀ j, j < sz -> ∃ u, olds[i * sz + j]? = some u /\ rel ι' (c0 i j) u) (hrn : ∀ i, i < n -> ∀ j, j < sz -> ∃ u, news[i * sz + j]? = some u /\ rel ι' (c i j) u) :
  BR ι' w' f (.arr true t sz (len + n) (b09 len c0 c)) := by
 refine .inr ⟨_, hf, hcap, fun i hi j hj => ?_, fun _ => ⟨hmx, C, q0, rfl, hC, hsz⟩⟩
 rw [cell_of_row w' g _ C t (0, 0) hC, <- Array.getElem?_toList, hcs, List.getElem?_append_right (by simp only; omega), hpre]
 simp only [Nat.add_sub_cancel_left]
 by_cases hlt : i < len
 ·obtain ⟨u, q1, q2⟩ := hro i hlt j hj
  have hin : i * sz + j < olds.length := (List.getElem?_eq_some_iff.1 q1).1
  refine ⟨u, ?_, ho u (List.mem_of_getElem? q1), ?_⟩
  ·rw [List.append_assoc, List.getElem?_append_left hin]; exact q1
  ·rw [b2e hlt]; exact q2
 ·obtain ⟨u, q1, q2⟩ := hrn (i - len) (by omega) j hj
  refine ⟨u, ?_, hn u (List.mem_of_getElem? q1), ?_⟩
  ·have hin : (i - len) * sz + j < news.length := (List.getElem?_eq_some_iff.1 q1).1
   have hsub : (i - len) * sz = i * sz - len * sz := Nat.sub_mul _ _ _
   have hle : len * sz <= i * sz := Nat.mul_le_mul_right _ (by omega)
   rw [List.append_assoc, List.getElem?_append_right (by omega), List.getElem?_append_left (by omega), <- q1]
   congr 1; omega
  ·rw [a8f (by omega)]; exact q2
theorem b44 (hf : ∀ b, f <= b -> b < f' -> ι b = none /\ bs b = .gone) (hff : f < f') {te : TyD} (hte : a8x P te.t = some te) {t : TypeId} (ht : P.underlying t = some (.slice te.t)) (hzz : te.zero.length = te.sz) (hby : 0 < te.bytes)
  (base : Option Addr) (len k : Nat) (olds : List Value) (hlo : olds.length = len * te.sz) (hob : 0 < len -> ∃ ad, base = some ad) (hoc : ∀ ad, base = some ad -> ∀ j u, olds[j]? = some u -> w.cell? (ad.add j) = some u)
  (ho : ∀ u ∈ olds, u.oneCell' = true) {c0 c : Nat -> Nat -> AV} (hro : ∀ i, i < len -> ∀ j, j < te.sz -> ∃ u, olds[i * te.sz + j]? = some u /\ rel ι (c0 i j) u)
  {A : Option Addr} {n kc : Nat} {news : List Value} (hs : Src ι w te.sz A n news c) (hlk : len <= k) (hk : k < len + n \/ k = 0) (hbytes : (len + n) * te.bytes <= 140737488355328) (ty : TypeId) :
  ∃ v, Post ι bs f f' w ((do pure (.value (<- Builtin.append_ #[t, t] ty #[.slice base len k, .slice A n kc])) : Sem Next).run P w) v
   [(f, .arr true te.t te.sz (len + n) (b09 len c0 c))] /\ v = .sl f te.sz 0 (len + n) none := by
 refine ⟨_, ?_, rfl⟩
 obtain ⟨i, u, z, hi, hu, hz, e1, e2, e3, _⟩ := a2b hte
 have hle : len + n <= 140737488355328 := Nat.le_trans (Nat.le_mul_of_pos_right _ hby) hbytes
 rcases Nat.eq_zero_or_pos n with hn0 | hn0
 ·-- nothing is appended to nothing
  subst hn0
  have hk0 : k = 0 := by omega
  subst hk0
  have hl0 : len = 0 := by omega
  subst hl0
  have hrun : ((do pure (.value (<- Builtin.append_ #[t, t] ty #[.slice base 0 0, .slice A 0 kc])) : Sem Next).run P w) = .ok (.value (.slice base 0 0)) w := by
   cases A <;> cases base <;> simp [Builtin.append_, run_underlying ht, sizeOf, typeInfo, hi, Builtin.lenOf, Builtin.firstCells, loadCells, loadCellsFrom, storeCells]
  refine ⟨_, w, ι, .inl hrun, ?_, ?_⟩
  ·simp only [rel]; exact ⟨base, 0, rfl, Nat.le_refl _, (fun m h => by cases h), (fun h => absurd h (by omega))⟩
  ·have hsl : ∀ b, f <= b -> b < f' -> ι b = none := fun b h1 h2 => (hf b h1 h2).1
   exact {
    ext := fun _ _ => rfl
    br := by
     rintro b' ⟨k', hk'⟩
     simp only [List.mem_singleton, Prod.mk.injEq] at hk'
     obtain ⟨rfl, rfl⟩ := hk'
     rw [a0p]
     exact .inl ⟨rfl, hsl _ (Nat.le_refl _) (by omega)⟩
    os := rfl
    tape := rfl
    output := rfl
    size := Nat.le_refl _
    keep := fun _ _ _ => rfl
    lt := fun b' l' q1 q2 q3 => by rw [hsl b' q1 q2] at q3; cases q3
    fresh := fun b' l' q1 q2 _ q3 => by rw [hsl b' q1 q2] at q3; cases q3
    one := fun b' b2 l' l2 q1 q2 _ _ _ _ _ q3 => by rw [hsl b' q1 q2] at q3; cases q3
    rwn := by
     intro b' k' hk' _
     simp only [List.mem_singleton, Prod.mk.injEq] at hk'
     rw [hk'.2]; rfl
    upr := by
     intro b' k' hk'
     simp only [List.mem_singleton, Prod.mk.injEq] at hk'
     exact .inl (by omega)
    pl := by
     intro b' k' hk'
     simp only [List.mem_singleton, Prod.mk.injEq] at hk'
     exact ⟨by rw [hk'.2]; rfl, .inl (by omega)⟩ }
 ·obtain ⟨ad, rfl⟩ := hs.at_ hn0
  have hkl : k < len + n := by omega
  have hge := grownCap_ge w (len + n) k te.t
  have hmx : len + n <= maxLen := by simp only [maxLen]; omega
  have hcm := grownCap_le_maxLen w (len + n) k te.t hmx
  have hnews : ∀ j u, news[j]? = some u -> w.cell? (ad.add j) = some u := hs.cell ad rfl
  have hrun : ((do pure (.value (<- Builtin.append_ #[t, t] ty #[.slice base len k, .slice (some ad) n kc])) : Sem Next).run P w) =
    .ok (.value (.slice (some ⟨w.heap.size, 0, none⟩) (len + n) (grownCap w (len + n) k te.t)))
     (w.drew.alloc (.cells (olds.toArray ++ news.toArray ++ Builtin.zeroCells z.cells (grownCap w (len + n) k te.t - (len + n))) te.t)) := by
   cases base with
   | some a0 =>
    have := run_append_grow (P := P) w t ty te.t i z ht hi hz a0 len k olds (by rw [hlo, e1]) (hoc a0 rfl) ad n kc news (by rw [hs.len, e1]) hnews hkl (by simp only [maxLen] at hmx; omega) (growslice_fits hkl (by rw [<- e2]; exact hbytes))
    simp only [Sem.run_bind, this, Result.andThen_ok, Sem.run_pure]
   | none =>
    have hl0 : len = 0 := by
     rcases Nat.eq_zero_or_pos len with h | h
     ·exact h
     ·obtain ⟨ad, h⟩ := hob h; cases h
    subst hl0
    have ho0 : olds = [] := List.eq_nil_of_length_eq_zero (by simpa using hlo)
    subst ho0
    have hk' : ¬ (n <= k) := by omega
    have h63' : ¬ (9223372036854775807 < (n : Int)) := by simp only [maxLen] at hmx; omega
    have hfit := growslice_fits (need := 0 + n) (old := k) (bytes := i.bytes) hkl (by rw [<- e2]; exact hbytes)
    simp only [Nat.zero_add] at hfit
    have h48' : ¬ (281474976710656 < Builtin.nextslicecap n k * i.bytes) := by omega
    have hf' := run_firstCells_some (P := P) w.drew i.size n ad n kc news (by rw [hs.len, e1]) (by simpa using hnews)
    simp [Builtin.append_, run_underlying ht, sizeOf, typeInfo, zeroValue, hi, hz, Builtin.lenOf, hk', h63', h48', Question.forced, run_firstCells_none, hf', newRow, grownCap]
  have hzc : z.cells.size = te.zero.length := by rw [e3]; simp
  refine a8d (w := w) (w1 := w.drew) hf hff _ te.t (grownCap w (len + n) k te.t) _ rfl rfl ?_ ?_ ⟨rfl, rfl, rfl, rfl⟩ hrun
  ·intro ι' w' hι hext hw'
   exact c4f (olds := olds) (news := news) (rest := (Builtin.zeroCells z.cells (grownCap w (len + n) k te.t - (len + n))).toList) (q0 := 0) (pre := []) (by rw [Nat.zero_mul]; exact hι) (by simp) hw' hge hcm
    (by simp only [Array.size_append, List.size_toArray, size_zeroCells, hlo, hs.len, hzc, hzz]; rw [<- Nat.add_mul, <- Nat.add_mul]; congr 1; omega)
     (by simp) hlo hs.len ho hs.one (fun i hi j hj => by obtain ⟨u, q1, q2⟩ := hro i hi j hj; exact ⟨u, q1, a2p hext _ _ q2⟩)
     (fun i hi j hj => by obtain ⟨u, q1, q2⟩ := hs.rel i hi j hj; exact ⟨u, q1, a2p hext _ _ q2⟩)
  ·intro ι' hι hext
   simp only [rel]
   exact ⟨_, _, rfl, hge, (fun m h => by cases h), (fun _ => ⟨_, hι, by simp, fun _ => by simp⟩)⟩
end
end Go.Vx
namespace Go.Vx
variable {P : Program}
section
variable {ι : Lay} {bs : Nat -> Blk} {f f' : Nat} {w : World}
theorem a9d (w : World) (t ty e : TypeId) (i : TypeInfo) (ht : P.underlying t = some (.slice e)) (hi : P.info? e = some i)
  (g o sLen sCap : Nat) (cur : Array Value) (hg : w.heap[g]? = some (.cells cur e (0, 0)))
  (a : Addr) (m c : Nat) (news : List Value) (hl : news.length = m * i.size) (hnews : ∀ j u, news[j]? = some u -> w.cell? (a.add j) = some u) (h1 : ∀ u ∈ news, u.oneCell' = true)
  (hroom : sLen + m <= sCap) (hfit : o + sLen * i.size + news.length <= cur.size) :
  (Builtin.append_ #[t, t] ty #[.slice (some ⟨g, o, none⟩) sLen sCap, .slice (some a) m c]).run P w =
   .ok (.slice (some ⟨g, o, none⟩) (sLen + m) sCap) (w.setRow g (cur.toList.take (o + sLen * i.size) ++ news ++ cur.toList.drop (o + sLen * i.size + news.length)).toArray) := by
 have hf := run_firstCells_some (P := P) w i.size m a m c news hl hnews
 have hst := run_storeCells_at P g (o + sLen * i.size) e news 0 cur w hg (by simpa using hfit) h1
 simp only [Nat.add_zero] at hst
 simp [Builtin.append_, run_underlying ht, sizeOf, typeInfo, hi, Builtin.lenOf, hroom, hf, Addr.add_lit, hst]
theorem b0x (hf : ∀ b, f <= b -> b < f' -> ι b = none /\ bs b = .gone) (hff : f < f') (hb : ∀ b, BR ι w b (bs b)) (hlt : ∀ b l, ι b = some l -> l.g < w.heap.size) {te : TyD} {tid : TypeId} (hte : a8x P tid = some te) {t : TypeId} (ht : P.underlying t = some (.slice tid))
  {s x : AV} {cs cx : Value} (hs : rel ι s cs) (hx : rel ι x cx) {p : List Prop} {v : AV} {up : List (Nat × Blk)} (h : b02 te s x bs f = some (p, v, up)) (hp : a14 p) (ty : TypeId) :
  Post ι bs f f' w ((do pure (.value (<- Builtin.append_ #[t, t] ty #[cs, cx])) : Sem Next).run P w) v up := by
 obtain ⟨i, u, z, hi, hu, hz, e1, e2, e3, _⟩ := a2b hte
 have htid : te.t = tid := c98 hte
 subst htid
 unfold b02 at h
 cases hsrc : b3l te.sz x bs with
 | none => simp [hsrc] at h
 | some q =>
 obtain ⟨ps, n, c⟩ := q
 simp only [hsrc] at h
 cases hg : Nat.beq te.sz 0 || Nat.beq te.bytes 0 || !Nat.beq te.zero.length te.sz with
 | true => simp [hg] at h
 | false =>
 simp only [hg, cond_false] at h
 simp only [Bool.or_eq_false_iff, Bool.not_eq_false'] at hg
 obtain ⟨⟨g1, g2⟩, g3⟩ := hg
 have hsz : 0 < te.sz := Nat.pos_of_ne_zero fun e => by rw [e] at g1; cases g1
 have hby : 0 < te.bytes := Nat.pos_of_ne_zero fun e => by rw [e] at g2; cases g2
 have hzz : te.zero.length = te.sz := Nat.eq_of_beq_eq_true g3
 split at h
 ·-- onto nil
  simp only [Option.some.injEq, Prod.mk.injEq] at h
  obtain ⟨rfl, rfl, rfl⟩ := h
  obtain ⟨hbytes, hps⟩ := hp
  obtain ⟨A, k, news, rfl, hS⟩ := b53 hx hb hsrc hps
  simp only [rel] at hs
  subst hs
  obtain ⟨v', hpost, rfl⟩ := b44 (P := P) (ι := ι) (bs := bs) (w := w) hf hff hte ht hzz hby none 0 0 [] (by simp) (fun h => absurd h (by omega)) (fun ad h => by cases h) (by simp) (c0 := fun _ _ => .dead)
   (fun i hi => absurd hi (by omega)) (kc := k) hS (Nat.le_refl _) (.inr rfl) (by simpa using hbytes) ty
  simp only [Nat.zero_add] at hpost
  obtain ⟨c', w', ι', h1, h2, h3⟩ := hpost
  have hpl : ∀ b1 k1, (b1, k1) ∈ [(f, Blk.arr true te.t te.sz n c)] -> k1.plain = true /\ ((f <= b1 /\ b1 < f') \/ (bs b1).plain = true) := by
   intro b1 k1 hk1
   simp only [List.mem_singleton, Prod.mk.injEq] at hk1
   exact ⟨by rw [hk1.2]; rfl, .inl (by omega)⟩
  refine ⟨c', w', ι', h1, h2, { h3 with br := ?_, keep := ?_, fresh := ?_, one := ?_, rwn := ?_, upr := ?_, pl := hpl }⟩
  ·rintro b ⟨k', hk'⟩
   simp only [List.mem_singleton, Prod.mk.injEq] at hk'
   obtain ⟨rfl, rfl⟩ := hk'
   have := h3.br b ⟨_, List.mem_singleton.2 rfl⟩
   rw [a0p] at this ⊢
   rcases this with ⟨q1, q2⟩ | ⟨l, q1, q2, q3, q4⟩
   ·exact .inl ⟨q1, q2⟩
   ·refine .inr ⟨l, q1, q2, fun i hi j hj => ?_, q4⟩
    obtain ⟨cv, r1, r2, r3⟩ := q3 i hi j hj
    exact ⟨cv, r1, r2, by simpa [a8f (Nat.zero_le i)] using r3⟩
  ·intro g hgl hk
   refine h3.keep g hgl fun b k' l hm => ?_
   simp only [List.mem_singleton, Prod.mk.injEq] at hm
   exact hk b (.arr true te.t te.sz n c) l (by rw [hm.1]; simp)
  ·intro b l q1 q2 q4 q3
   have hbf : b = f := by
    by_cases hbf : b = f
    ·exact hbf
    ·rw [a0w _ _ _ _ hbf] at q4
     simp only [a1i] at q4
     rw [(hf b q1 q2).2] at q4; cases q4
   subst hbf
   rcases h3.fresh b l q1 q2 (by rw [a0p]; rfl) q3 with hh | ⟨b0, l0, hm, _⟩
   ·exact .inl hh
   ·simp at hm
  ·intro b b' l l' q1 q2 q3 q4 hne q5 q6
   by_cases hbf : b = f
   ·have : b' ≠ f := by omega
    rw [a0w _ _ _ _ this] at q6
    simp only [a1i] at q6
    rw [(hf b' q3 q4).2] at q6; cases q6
   ·rw [a0w _ _ _ _ hbf] at q5
    simp only [a1i] at q5
    rw [(hf b q1 q2).2] at q5; cases q5
  ·intro b k' hk' _
   simp only [List.mem_singleton, Prod.mk.injEq] at hk'
   rw [hk'.2]; rfl
  ·intro b k' hk'
   simp only [List.mem_singleton, Prod.mk.injEq] at hk'
   exact h3.upr b _ (by rw [hk'.1]; exact List.mem_singleton.2 rfl)
 ·-- onto a row of the call's own
  rename_i b e off len
  split at h
  ·rename_i t' e' m c0 hbb
   cases hq : Nat.beq t' te.t && Nat.beq e' te.sz && Nat.beq e te.sz with
   | false => simp [hq] at h
   | true =>
   have h' : some ((m = off + len) :: ((len + n) * te.bytes <= 140737488355328) :: ps, AV.sl f te.sz 0 (len + n) none,
     [(b, Blk.gone), (f, Blk.arr true te.t te.sz (len + n) (b09 len (fun i j => c0 (off + i) j) c))]) = some (p, v, up) := by
    rw [<- h, hq, cond_true]
    cases hz : Nat.beq off 0 with
    | false => rfl
    | true =>
     have := Nat.eq_of_beq_eq_true hz
     subst this
     simp only [cond_true, Nat.zero_add]
   clear h
   simp only [Option.some.injEq, Prod.mk.injEq] at h'
   simp only [Bool.and_eq_true] at hq
   have r1 := Nat.eq_of_beq_eq_true hq.1.1
   have r2 := Nat.eq_of_beq_eq_true hq.1.2
   have r3 := Nat.eq_of_beq_eq_true hq.2
   subst r1; subst r2
   obtain ⟨rfl, rfl, rfl⟩ := h'
   obtain ⟨rfl, hbytes, hps⟩ := hp
   obtain ⟨A, kc, news, rfl, hS⟩ := b53 hx hb hsrc hps
   have hbb' := hb b
   rw [hbb] at hbb'
   simp only [rel] at hs
   obtain ⟨a, k, rfl, hlk, _, h3⟩ := hs
   have hbf : b < f \/ f' <= b := by
    rcases Nat.lt_or_ge b f with h | h
    ·exact .inl h
    ·rcases Nat.lt_or_ge b (f') with h' | h'
     ·have := (hf b h h').2; rw [hbb] at this; cases this
     ·exact .inr h'
   obtain ⟨olds, hO⟩ := b48 (off := off) (n := len) hbb' (Nat.le_refl _) (a := a) hlk (fun hk => by obtain ⟨l, q1, q2, _⟩ := h3 hk; exact ⟨l, q1, by rw [q2, r3]⟩)
   have letgo : ∀ {r : Result Next} {v : AV}, Post ι bs f f' w r v [(f, .arr true te.t te.sz (len + n) (b09 len (fun i j => c0 (off + i) j) c))] -> Post ι bs f f' w r v [(b, .gone), (f, .arr true te.t te.sz (len + n) (b09 len (fun i j => c0 (off + i) j) c))] := by
    rintro r v ⟨c', w', ι', q1, q2, q3⟩
    have hpl : ∀ b1 k1, (b1, k1) ∈ [(b, Blk.gone), (f, .arr true te.t te.sz (len + n) (b09 len (fun i j => c0 (off + i) j) c))] -> k1.plain = true /\ ((f <= b1 /\ b1 < f') \/ (bs b1).plain = true) := by
     intro b1 k1 hk1
     simp only [List.mem_cons, Prod.mk.injEq, List.not_mem_nil, or_false] at hk1
     rcases hk1 with hk1 | hk1
     ·exact ⟨by rw [hk1.2]; rfl, .inr (by rw [hk1.1, hbb]; rfl)⟩
     ·exact ⟨by rw [hk1.2]; rfl, .inl (by omega)⟩
    refine ⟨c', w', ι', q1, q2, { q3 with br := ?_, keep := ?_, fresh := ?_, one := ?_, rwn := ?_, upr := ?_, pl := hpl }⟩
    ·rintro b1 ⟨k1, hk1⟩
     by_cases hb1 : b1 = b
     ·subst hb1; rw [a0p]; trivial
     ·rw [a0w _ _ _ _ hb1]
      simp only [List.mem_cons, Prod.mk.injEq, List.not_mem_nil, or_false] at hk1
      rcases hk1 with hk1 | hk1
      ·exact absurd hk1.1 hb1
      ·exact q3.br b1 ⟨k1, by simp [hk1]⟩
    ·intro g hgl hk
     exact q3.keep g hgl fun b1 k1 l1 hm => hk b1 k1 l1 (by simp at hm ⊢; exact .inr hm)
    ·intro b1 l1 s1 s2 s4 s3
     rw [a0w _ _ _ _ (show b1 ≠ b by omega)] at s4
     rcases q3.fresh b1 l1 s1 s2 s4 s3 with hh | ⟨b0, l0, hm, _⟩
     ·exact .inl hh
     ·simp at hm
    ·intro b1 b2 l1 l2 s1 s2 s3 s4 hne s5 s6
     rw [a0w _ _ _ _ (show b1 ≠ b by omega)] at s5
     rw [a0w _ _ _ _ (show b2 ≠ b by omega)] at s6
     exact q3.one b1 b2 l1 l2 s1 s2 s3 s4 hne s5 s6
    ·intro b1 k1 hk1 hlv
     simp only [List.mem_cons, Prod.mk.injEq, List.not_mem_nil, or_false] at hk1
     rcases hk1 with hk1 | hk1
     ·rw [hk1.2] at hlv; cases hlv
     ·rw [hk1.2]; rfl
    ·intro b1 k1 hk1
     simp only [List.mem_cons, Prod.mk.injEq, List.not_mem_nil, or_false] at hk1
     rcases hk1 with hk1 | hk1
     ·right; rw [hk1.1, hbb]; rfl
     ·exact q3.upr b1 k1 (by simp [hk1])
   by_cases hroom : len + n <= k /\ 0 < k
   ·-- in place
    obtain ⟨hroom, hk0⟩ := hroom
    obtain ⟨l, hl, rfl, hcapl⟩ := h3 hk0
    have hcapl := hcapl trivial
    rcases hbb' with ⟨_, q2⟩ | ⟨l', q1, q2, q3, q4⟩
    ·rw [q2] at hl; cases hl
    rw [hl] at q1; cases q1
    obtain ⟨hmx, C, qq, ho, hC, hCs⟩ := q4 rfl
    have hpo : l.o + off * e = (qq + off) * te.sz := by rw [ho, r3, Nat.add_mul]
    rw [hpo]
    have hCs : C.size = (qq + off) * te.sz + k * te.sz := by rw [hCs, <- Nat.add_mul]; congr 1; omega
    have hrun : (Builtin.append_ #[t, t] ty #[.slice (some ⟨l.g, (qq + off) * te.sz, none⟩) len k, .slice A n kc]).run P w =
      .ok (.slice (some ⟨l.g, (qq + off) * te.sz, none⟩) (len + n) k) (w.setRow l.g (C.toList.take ((qq + off) * te.sz + len * i.size) ++ news ++ C.toList.drop ((qq + off) * te.sz + len * i.size + news.length)).toArray) := by
     have hfit : (qq + off) * te.sz + len * i.size + news.length <= C.size := by
      have := Nat.mul_le_mul_right te.sz hroom
      rw [Nat.add_mul] at this
      rw [hS.len, hCs, <- e1]; omega
     cases A with
     | some ad => exact a9d (P := P) w t ty te.t i ht hi l.g _ len k C hC ad n kc news (by rw [hS.len, e1]) (hS.cell ad rfl) hS.one hroom hfit
     | none =>
      have hn0 : n = 0 := by
       rcases Nat.eq_zero_or_pos n with h | h
       ·exact h
       ·obtain ⟨ad, h⟩ := hS.at_ h; cases h
      subst hn0
      have hne : news = [] := List.eq_nil_of_length_eq_zero (by simpa using hS.len)
      subst hne
      have hsame : (C.toList.take ((qq + off) * te.sz + len * i.size) ++ [] ++ C.toList.drop ((qq + off) * te.sz + len * i.size + ([] : List Value).length)).toArray = C := by simp
      rw [hsame, setRow_self w l.g C te.t (0, 0) hC]
      simp [Builtin.append_, run_underlying ht, sizeOf, typeInfo, hi, Builtin.lenOf, Builtin.firstCells, hlk, storeCells]
    let ι' : Lay := fun y => if y = f then some ⟨l.g, (qq + off) * te.sz, k⟩ else ι y
    have hself : ι' f = some ⟨l.g, (qq + off) * te.sz, k⟩ := by simp [ι']
    have hoth : ∀ y, y ≠ f -> ι' y = ι y := fun y hy => by simp [ι', hy]
    have hext : Ext ι ι' := fun b1 l1 hl1 => by
     by_cases hb1 : b1 = f
     ·subst hb1; have := (hf b1 (by omega) (by omega)).1; rw [this] at hl1; cases hl1
     ·rw [hoth b1 hb1]; exact hl1
    have hbne : b ≠ f := by omega
    have hlk2 : (qq + off) * te.sz + len * te.sz <= C.size := by
     rw [hCs]; have := Nat.mul_le_mul_right te.sz hlk; omega
    have hold : ∀ q : Nat, q < len * te.sz -> ∃ u, C.toList[(qq + off) * te.sz + q]? = some u /\ u.oneCell' = true /\ rel ι' (c0 (off + q / te.sz) (q % te.sz)) u := fun q hq => by
     have h4 : q / te.sz < len := (Nat.div_lt_iff_lt_mul hsz).2 hq
     obtain ⟨cv, s1, s2, s3⟩ := q3 (off + q / te.sz) (by omega) (q % te.sz) (Nat.mod_lt _ hsz)
     rw [cell_of_row w l.g _ C te.t (0, 0) hC, <- Array.getElem?_toList] at s1
     refine ⟨cv, ?_, s2, a2p hext _ _ s3⟩
     rw [<- s1]
     have := Nat.div_add_mod q te.sz
     rw [Nat.mul_comm] at this
     congr 1
     rw [ho, Nat.add_mul, Nat.add_mul]; omega
    let pre := C.toList.take ((qq + off) * te.sz)
    let oldC := (C.toList.drop ((qq + off) * te.sz)).take (len * te.sz)
    have hpre : pre.length = (qq + off) * te.sz := by simp only [pre, List.length_take, Array.length_toList]; omega
    have holen : oldC.length = len * te.sz := by simp only [oldC, List.length_take, List.length_drop, Array.length_toList]; omega
    have hget : ∀ q : Nat, q < len * te.sz -> oldC[q]? = C.toList[(qq + off) * te.sz + q]? := fun q hq => by
     simp only [oldC]; rw [List.getElem?_take_of_lt hq, List.getElem?_drop]
    have hsplit : C.toList.take ((qq + off) * te.sz + len * i.size) = pre ++ oldC := by
     simp only [pre, oldC, <- e1]; rw [List.take_add]
    have hOn : ∀ i', i' < len -> ∀ j, j < te.sz -> ∃ u, oldC[i' * te.sz + j]? = some u /\ rel ι' (c0 (off + i') j) u := by
     intro i' hi' j hj
     have hq : i' * te.sz + j < len * te.sz := by
      have : (i' + 1) * te.sz <= len * te.sz := Nat.mul_le_mul_right _ hi'
      rw [Nat.add_mul] at this; omega
     obtain ⟨u, s1, _, s3⟩ := hold _ hq
     refine ⟨u, by rw [hget _ hq]; exact s1, ?_⟩
     rw [Nat.mul_comm i' te.sz, Nat.mul_add_div hsz, Nat.div_eq_of_lt hj, Nat.mul_add_mod, Nat.mod_eq_of_lt hj] at s3
     exact s3
    refine ⟨_, _, ι', .inl (by simp only [Sem.run_bind, hrun, Result.andThen_ok, Sem.run_pure]; rfl), ?_, ?_⟩
    ·simp only [rel]
     exact ⟨_, k, rfl, hroom, (fun m h => by cases h), (fun _ => ⟨_, hself, by simp, fun _ => by simp⟩)⟩
    ·exact {
      ext := fun b1 hb1 => hoth b1 (by omega)
      br := by
       rintro b1 ⟨k1, hk1⟩
       by_cases hb1 : b1 = b
       ·subst hb1; rw [a0p]; trivial
       ·rw [a0w _ _ _ _ hb1]
        simp only [List.mem_cons, Prod.mk.injEq, List.not_mem_nil, or_false] at hk1
        rcases hk1 with hk1 | hk1
        ·exact absurd hk1.1 hb1
        ·rw [hk1.1, a0p]
         refine c4f (pre := pre) (q0 := qq + off) (olds := oldC) (news := news) (rest := C.toList.drop ((qq + off) * te.sz + len * i.size + news.length)) hself hpre (setRow_heap w l.g C _ te.t (0, 0) hC) hroom (by omega) ?_ ?_ holen hS.len
          (fun u hu => ?_) hS.one hOn (fun i' hi' j hj => by obtain ⟨u, s1, s2⟩ := hS.rel i' hi' j hj; exact ⟨u, s1, a2p hext _ _ s2⟩)
         ·have hfit : (qq + off) * te.sz + len * i.size + news.length <= C.size := by
           have := Nat.mul_le_mul_right te.sz hroom
           rw [Nat.add_mul] at this
           rw [hS.len, hCs, <- e1]; omega
          rw [hsplit]
          simp only [List.size_toArray, List.length_append, List.length_drop, Array.length_toList, holen, hpre]
          rw [<- e1] at hfit ⊢
          rw [Nat.add_mul (qq + off) k]
          omega
         ·rw [hsplit]; simp only [List.toList_toArray, List.append_assoc]
         ·obtain ⟨q, hq⟩ := List.mem_iff_getElem?.1 hu
          have hql : q < len * te.sz := by rw [<- holen]; exact (List.getElem?_eq_some_iff.1 hq).1
          obtain ⟨cv, s1, s2, _⟩ := hold q hql
          rw [hget q hql, s1] at hq
          cases hq; exact s2
      os := rfl
      tape := rfl
      output := rfl
      size := by simp [World.setRow]
      keep := fun g _ hk => setRow_other w l.g g _ (fun e => hk b .gone l (by simp) (by rw [hbb]; rfl) hl e.symm)
      lt := fun b1 l1 s1 s2 s3 => by
       by_cases hb1 : b1 = f
       ·subst hb1; rw [hself] at s3; cases s3; simp [World.setRow]; exact hlt b l hl
       ·rw [hoth b1 hb1, (hf b1 s1 s2).1] at s3; cases s3
      rwn := by
       intro b1 k1 hk1 hlv
       simp only [List.mem_cons, Prod.mk.injEq, List.not_mem_nil, or_false] at hk1
       rcases hk1 with hk1 | hk1
       ·rw [hk1.2] at hlv; cases hlv
       ·rw [hk1.2]; rfl
      fresh := fun b1 l1 s1 s2 _ s3 => by
       by_cases hb1 : b1 = f
       ·subst hb1; rw [hself] at s3; cases s3
        exact .inr ⟨b, l, by simp, a0p _ _ _ _, by rw [hbb]; rfl, hl, rfl⟩
       ·rw [hoth b1 hb1, (hf b1 s1 s2).1] at s3; cases s3
      one := fun b1 b2 l1 l2 s1 s2 s3 s4 hne _ _ s5 s6 => by
       by_cases hb1 : b1 = f
       ·rw [hoth b2 (by omega), (hf b2 s3 s4).1] at s6; cases s6
       ·rw [hoth b1 hb1, (hf b1 s1 s2).1] at s5; cases s5
      upr := by
       intro b1 k1 hk1
       simp only [List.mem_cons, Prod.mk.injEq, List.not_mem_nil, or_false] at hk1
       rcases hk1 with hk1 | hk1
       ·right; rw [hk1.1, hbb]; rfl
       ·exact .inl (by omega)
      pl := by
       intro b1 k1 hk1
       simp only [List.mem_cons, Prod.mk.injEq, List.not_mem_nil, or_false] at hk1
       rcases hk1 with hk1 | hk1
       ·exact ⟨by rw [hk1.2]; rfl, .inr (by rw [hk1.1, hbb]; rfl)⟩
       ·exact ⟨by rw [hk1.2]; rfl, .inl (by omega)⟩ }
   ·obtain ⟨v', hpost, rfl⟩ := b44 (P := P) (ι := ι) (bs := bs) (w := w) hf hff hte ht hzz hby a len k olds hO.len hO.at_ hO.cell hO.one hO.rel (kc := kc) hS hlk (by omega) hbytes ty
    exact letgo hpost
  ·cases h
 ·-- onto a slice of a known capacity
  rename_i b e off len cp
  split at h
  ·rename_i rw' t' e' m c0 hbb
   cases hq : Nat.beq e' te.sz && Nat.beq e te.sz with
   | false => simp [hq] at h
   | true =>
   simp only [hq, cond_true, Option.some.injEq, Prod.mk.injEq] at h
   simp only [Bool.and_eq_true] at hq
   have r2 := Nat.eq_of_beq_eq_true hq.1
   have r3 := Nat.eq_of_beq_eq_true hq.2
   subst r2
   obtain ⟨rfl, rfl, rfl⟩ := h
   obtain ⟨hm, hcp, hbytes, hps⟩ := hp
   obtain ⟨A, kc, news, rfl, hS⟩ := b53 hx hb hsrc hps
   have hbb' := hb b
   rw [hbb] at hbb'
   simp only [rel] at hs
   obtain ⟨a, k, rfl, hlk, hkc, h3⟩ := hs
   have hk := hkc cp rfl
   subst hk
   obtain ⟨olds, hO⟩ := b48 (off := off) (n := len) hbb' hm (a := a) hlk (fun hk => by obtain ⟨l, q1, q2, _⟩ := h3 hk; exact ⟨l, q1, by rw [q2, r3]⟩)
   obtain ⟨v', hpost, rfl⟩ := b44 (P := P) (ι := ι) (bs := bs) (w := w) hf hff hte ht hzz hby a len k olds hO.len hO.at_ hO.cell hO.one hO.rel (kc := kc) hS hlk hcp hbytes ty
   exact hpost
  ·cases h
 ·cases h
theorem b24 (w : World) (tys : Array TypeId) (t ty e : TypeId) (i : TypeInfo) (h0 : tys[0]? = some t) (ht : P.underlying t = some (.slice e)) (hi : P.info? e = some i)
  (g o dLen dCap : Nat) (cur : Array Value) (t' : TypeId) (hg : w.heap[g]? = some (.cells cur t' (0, 0)))
  (a : Addr) (m c k : Nat) (news : List Value) (hk : k = min m dLen) (hl : news.length = k * i.size) (hnews : ∀ j u, news[j]? = some u -> w.cell? (a.add j) = some u) (h1 : ∀ u ∈ news, u.oneCell' = true)
  (hfit : o + news.length <= cur.size) :
  (Builtin.copy_ tys ty #[.slice (some ⟨g, o, none⟩) dLen dCap, .slice (some a) m c]).run P w =
   .ok (goInt k) (w.setRow g (cur.toList.take o ++ news ++ cur.toList.drop (o + news.length)).toArray) := by
 have hf := run_firstCells_some (P := P) w i.size k a m c news hl hnews
 have hst := run_storeCells_at P g o t' news 0 cur w hg (by simpa using hfit) h1
 simp only [Nat.add_zero] at hst
 have hmin : Nat.min m dLen = k := hk.symm
 simp [Builtin.copy_, h0, run_underlying ht, sizeOf, typeInfo, hi, Builtin.lenOf, hmin, hf, hst]
theorem b1w (w : World) (tys : Array TypeId) (t ty e : TypeId) (i : TypeInfo) (h0 : tys[0]? = some t) (ht : P.underlying t = some (.slice e)) (hi : P.info? e = some i)
  (d a : Option Addr) (n len dCap c : Nat) (hn : min n len = 0) :
  (Builtin.copy_ tys ty #[.slice d len dCap, .slice a n c]).run P w = .ok (goInt 0) w := by
 have hl : ∀ (x : Addr), (loadCells x 0).run P w = .ok #[] w := fun x => by simpa using run_loadCells_list (P := P) w x [] (by simp)
 have hmin : Nat.min n len = 0 := hn
 cases d <;> cases a <;> simp [Builtin.copy_, h0, run_underlying ht, Builtin.lenOf, Builtin.firstCells, sizeOf, typeInfo, hi, storeCells, hl, hmin]
theorem c4k (hf : ∀ b, f <= b -> b < f' -> ι b = none /\ bs b = .gone) (hb : ∀ b, BR ι w b (bs b)) {te : TyD} {tid : TypeId} (hte : a8x P tid = some te) {t : TypeId} (ht : P.underlying t = some (.slice tid))
  {s x : AV} {cs cx : Value} (hs : rel ι s cs) (hx : rel ι x cx) {d : CpD} (h : c5o te s x bs = some d) (hp : a14 d.p) {k : Nat} (hk : k = min d.n d.len) (hm : d.off + k <= d.m)
  {F : Nat -> Nat -> AV} (hF : ∀ i, i < d.m -> ∀ j, j < d.e -> F i j = cpF d.off k d.c0 d.c i j) (r : List TypeId) (ty : TypeId) :
  Post ι bs f f' w ((do pure (.value (<- Builtin.copy_ (t :: r).toArray ty #[cs, cx])) : Sem Next).run P w) (.val (.int .i64 k)) [(d.b, .arr true d.t d.e d.m F)] := by
 obtain ⟨i, u, z, hi, hu, hz, e1, e2, e3, _⟩ := a2b hte
 unfold c5o at h
 cases hsrc : b3l te.sz x bs with
 | none => simp [hsrc] at h
 | some q =>
 obtain ⟨ps, n, c⟩ := q
 simp only [hsrc] at h
 split at h
 ·rename_i b e off len cap
  split at h
  ·rename_i t' e' m c0 hbb
   obtain ⟨hq, hh⟩ := a02 h
   subst hh
   simp only at hp hk hm hF
   simp only [Bool.and_eq_true] at hq
   have r2 := Nat.eq_of_beq_eq_true hq.1
   have r3 := Nat.eq_of_beq_eq_true hq.2
   subst r2; subst r3
   obtain ⟨A, kc, news, rfl, hS⟩ := b53 hx hb hsrc hp
   have hbb' := hb b
   rw [hbb] at hbb'
   simp only [rel] at hs
   obtain ⟨a, cp, rfl, hlk, _, h3⟩ := hs
   have h00 : (t :: r).toArray[0]? = some t := by simp
   have hbf : b < f \/ f' <= b := by
    rcases Nat.lt_or_ge b f with h | h
    ·exact .inl h
    ·rcases Nat.lt_or_ge b (f') with h' | h'
     ·have := (hf b h h').2; rw [hbb] at this; cases this
     ·exact .inr h'
   have hsl : ∀ b, f <= b -> b < f' -> ι b = none := fun b h1 h2 => (hf b h1 h2).1
   have hold : ∀ i, i < m -> ∀ j, j < te.sz -> ¬ (off <= i /\ i < off + k) -> F i j = c0 i j := fun i hi j hj hh => by
    rw [hF i hi j hj]
    have : (Nat.ble off i && Nat.blt i (off + k)) = false := by
     rw [Bool.eq_false_iff]
     intro q
     simp only [Bool.and_eq_true, Nat.blt, Nat.ble_eq] at q
     exact hh ⟨q.1, by omega⟩
    simp [cpF, this]
   have hnew : ∀ i, i < m -> ∀ j, j < te.sz -> off <= i -> i < off + k -> F i j = c (i - off) j := fun i hi j hj h1 h2 => by
    rw [hF i hi j hj]
    have : (Nat.ble off i && Nat.blt i (off + k)) = true := by
     simp only [Bool.and_eq_true, Nat.blt, Nat.ble_eq]
     exact ⟨h1, by omega⟩
    simp [cpF, this]
   have key : ∃ w', (Builtin.copy_ (t :: r).toArray ty #[.slice a len cp, .slice A n kc]).run P w = .ok (goInt k) w' /\ w'.os = w.os /\ w'.tape = w.tape /\ w'.output = w.output /\ w.heap.size <= w'.heap.size /\
     (∀ g, (∀ l, ι b = some l -> l.g ≠ g) -> w'.heap[g]? = w.heap[g]?) /\ BR ι w' b (.arr true t' te.sz m F) := by
    rcases Nat.eq_zero_or_pos k with h0 | h0
    ·subst h0
     refine ⟨w, b1w w _ t ty tid i h00 ht hi a A n len cp kc hk.symm, rfl, rfl, rfl, Nat.le_refl _, fun _ _ => rfl, ?_⟩
     rcases hbb' with ⟨q1, q2⟩ | ⟨l, q1, q2, q3, q4⟩
     ·exact .inl ⟨q1, q2⟩
     ·refine .inr ⟨l, q1, q2, fun i hi j hj => ?_, q4⟩
      rw [hold i hi j hj (by omega)]
      exact q3 i hi j hj
    ·obtain ⟨l, hl, rfl, _⟩ := h3 (by omega)
     rcases hbb' with ⟨q1, _⟩ | ⟨l', q1, q2, q3, q4⟩
     ·omega
     rw [hl] at q1; cases q1
     obtain ⟨hmx, C, qq, ho, hC, hCs⟩ := q4 rfl
     obtain ⟨ad, rfl⟩ := hS.at_ (by omega)
     have hnl := hS.len
     have hk2 : k * te.sz <= n * te.sz := Nat.mul_le_mul_right _ (by omega)
     have htl : (news.take (k * te.sz)).length = k * te.sz := by rw [List.length_take]; omega
     have hmul : (off + k) * te.sz <= l.n * te.sz := Nat.mul_le_mul_right _ (by omega)
     have hfit : l.o + off * te.sz + (news.take (k * te.sz)).length <= C.size := by rw [htl, hCs, Nat.add_mul, ho]; rw [Nat.add_mul] at hmul; omega
     have hrun := b24 (P := P) w (t :: r).toArray t ty tid i h00 ht hi l.g (l.o + off * te.sz) len cp C t' hC ad n kc k (news.take (k * te.sz)) hk (by rw [htl, e1])
      (fun j u hu => hS.cell ad rfl j u (by
       have hj : j < k * te.sz := by have := (List.getElem?_eq_some_iff.1 hu).1; omega
       rwa [List.getElem?_take_of_lt hj] at hu)) (fun u hu => hS.one u (List.mem_of_mem_take hu)) hfit
     refine ⟨_, hrun, rfl, rfl, rfl, by simp [World.setRow], fun g hg => setRow_other w l.g g _ (fun e => hg l hl e.symm), .inr ⟨l, hl, q2, fun i' hi' j hj => ?_, fun _ => ⟨hmx, _, qq, ho, setRow_heap w l.g C _ t' (0, 0) hC, ?_⟩⟩⟩
     ·have hto : (C.toList.take (l.o + off * te.sz)).length = l.o + off * te.sz := by rw [List.length_take, Array.length_toList]; omega
      rw [cell_of_row _ l.g _ _ t' (0, 0) (setRow_heap w l.g C _ t' (0, 0) hC), List.getElem?_toArray]
      by_cases hin : off <= i' /\ i' < off + k
      ·obtain ⟨u, s1, s2⟩ := hS.rel (i' - off) (by omega) j hj
       refine ⟨u, ?_, hS.one u (List.mem_of_getElem? s1), by rw [hnew i' hi' j hj hin.1 hin.2]; exact s2⟩
       have e5 : (i' - off) * te.sz = i' * te.sz - off * te.sz := Nat.sub_mul _ _ _
       have e6 : off * te.sz <= i' * te.sz := Nat.mul_le_mul_right _ hin.1
       have e7 : (i' + 1) * te.sz <= (off + k) * te.sz := Nat.mul_le_mul_right _ (by omega)
       rw [Nat.add_mul, Nat.add_mul] at e7
       rw [List.append_assoc, List.getElem?_append_right (by omega), List.getElem?_append_left (by omega), hto, List.getElem?_take_of_lt (by omega), <- s1]
       congr 1; omega
      ·obtain ⟨cv, s1, s2, s3⟩ := q3 i' hi' j hj
       refine ⟨cv, ?_, s2, by rw [hold i' hi' j hj hin]; exact s3⟩
       rw [cell_of_row w l.g _ C t' (0, 0) hC, <- Array.getElem?_toList] at s1
       rw [<- s1]
       by_cases hlt : i' < off
       ·have e6 : (i' + 1) * te.sz <= off * te.sz := Nat.mul_le_mul_right _ hlt
        rw [Nat.add_mul] at e6
        rw [List.append_assoc, List.getElem?_append_left (by omega), List.getElem?_take_of_lt (by omega)]
       ·have e6 : (off + k) * te.sz <= i' * te.sz := Nat.mul_le_mul_right _ (by omega)
        rw [Nat.add_mul] at e6
        rw [List.getElem?_append_right (by rw [List.length_append]; omega), List.getElem?_drop, List.length_append, hto]
        congr 1; omega
     ·simp only [List.size_toArray, List.length_append, List.length_take, List.length_drop, Array.length_toList]
      rw [List.length_take] at htl hfit
      omega
   obtain ⟨w', hrun, z1, z2, z3, z4, z5, z6⟩ := key
   refine ⟨goInt k, w', ι, .inl (by simp only [Sem.run_bind, hrun, Result.andThen_ok, Sem.run_pure]), by simp only [rel]; rfl, ?_⟩
   exact {
    ext := fun _ _ => rfl
    br := by
     rintro b' ⟨k', hk'⟩
     simp only [List.mem_singleton, Prod.mk.injEq] at hk'
     obtain ⟨rfl, rfl⟩ := hk'
     rw [a0p]
     exact z6
    os := z1
    tape := z2
    output := z3
    size := z4
    keep := fun g _ hk => z5 g fun l hl => hk b _ l (List.mem_singleton.2 rfl) (by rw [hbb]; rfl) hl
    lt := fun b' l' q1 q2 q3 => by rw [hsl b' q1 q2] at q3; cases q3
    fresh := fun b' l' q1 q2 _ q3 => by rw [hsl b' q1 q2] at q3; cases q3
    one := fun b' b2 l' l2 q1 q2 _ _ _ _ _ q3 => by rw [hsl b' q1 q2] at q3; cases q3
    rwn := by
     intro b' k' hk' _
     simp only [List.mem_singleton, Prod.mk.injEq] at hk'
     rw [hk'.2]; rfl
    upr := by
     intro b' k' hk'
     simp only [List.mem_singleton, Prod.mk.injEq] at hk'
     obtain ⟨rfl, rfl⟩ := hk'
     exact .inr (by rw [hbb]; rfl)
    pl := by
     intro b' k' hk'
     simp only [List.mem_singleton, Prod.mk.injEq] at hk'
     obtain ⟨rfl, rfl⟩ := hk'
     exact ⟨rfl, .inr (by rw [hbb]; rfl)⟩ }
  ·cases h
 ·cases h
end
end Go.Vx
namespace Go.Vx
variable {P : Program}
theorem b3x (off : Nat) : ∀ (l : List Value) (k : Nat) (C : Array Value), off + k + l.length <= C.size ->
  ((l.zipIdx k).foldl (fun cs (x : Value × Nat) => cs.setIfInBounds (off + x.2) x.1) C).size = C.size /\
  ∀ m, ((l.zipIdx k).foldl (fun cs (x : Value × Nat) => cs.setIfInBounds (off + x.2) x.1) C)[m]? = if off + k <= m /\ m < off + k + l.length then l[m - (off + k)]? else C[m]?
 | [], k, C, _ => by
  simp only [List.zipIdx_nil, List.foldl_nil, List.length_nil, true_and]
  intro m
  rw [if_neg (by omega)]
 | v :: r, k, C, h => by
  simp only [List.length_cons] at h
  simp only [List.zipIdx_cons, List.foldl_cons, List.length_cons]
  obtain ⟨h1, h2⟩ := b3x off r (k + 1) (C.setIfInBounds (off + k) v) (by simp; omega)
  refine ⟨by rw [h1]; simp, fun m => ?_⟩
  rw [h2 m]
  by_cases ha : off + (k + 1) <= m /\ m < off + (k + 1) + r.length
  ·rw [if_pos ha, if_pos (by omega)]
   rw [show m - (off + k) = m - (off + (k + 1)) + 1 from by omega]
   rfl
  ·rw [if_neg ha]
   by_cases hb : m = off + k
   ·subst hb
    rw [if_pos (by omega), Array.getElem?_setIfInBounds_self_of_lt (by omega)]
    simp
   ·rw [if_neg (by omega), Array.getElem?_setIfInBounds_ne (by omega)]
def CellsRel (ι : Lay) (cs : List AV) (C : Array Value) : Prop := cs.length = C.size /\ ∀ (j : Nat) (v : AV), cs[j]? = some v -> ∃ c, C[j]? = some c /\ c.oneCell' = true /\ rel ι v c
theorem CellsRel.relL {ι : Lay} {cs : List AV} {C : Array Value} (h : CellsRel ι cs C) : Vx.relL ι cs C.toList /\ ∀ u ∈ C.toList, u.oneCell' = true := by
 refine ⟨a3u _ _ (by simpa using h.1) fun i v c h1 h2 => ?_, fun u hu => ?_⟩
 ·obtain ⟨c', q1, _, q3⟩ := h.2 i v h1
  rw [Array.getElem?_toList] at h2
  rw [q1] at h2; cases h2; exact q3
 ·obtain ⟨m, hm⟩ := List.mem_iff_getElem?.1 hu
  have hl : m < cs.length := by have := (List.getElem?_eq_some_iff.1 hm).1; rw [h.1]; simpa using this
  obtain ⟨c, q1, q2, _⟩ := h.2 m _ (List.getElem?_eq_getElem hl)
  rw [Array.getElem?_toList, q1] at hm
  cases hm; exact q2
theorem CellsRel.vals (ι : Lay) (z : List Value) (h : a2a (z.map .val) = true) : CellsRel ι (z.map .val) z.toArray := by
 refine ⟨by simp, fun j v hj => ?_⟩
 rw [List.getElem?_map] at hj
 cases hz : z[j]? with
 | none => simp [hz] at hj
 | some c =>
  simp only [hz, Option.map_some, Option.some.injEq] at hj
  subst hj
  refine ⟨c, by simp [hz], ?_, by simp [rel]⟩
  have : ∀ (l : List AV), a2a l = true -> ∀ v ∈ l, v.one = true := by
   intro l
   induction l with
   | nil => intro _ v hv; cases hv
   | cons a r ih => intro hl v hv; simp only [a2a, Bool.and_eq_true] at hl; simp only [List.mem_cons] at hv; rcases hv with rfl | hv; exact hl.1; exact ih hl.2 v hv
  have h1 := this _ h (.val c) (List.mem_map.2 ⟨c, List.mem_of_getElem? hz, rfl⟩)
  cases c <;> simp_all [AV.one, Value.oneCell']
theorem b4m {ι : Lay} (place : Nat -> Option (Nat × Nat)) : ∀ (ps : List (Nat × AV)) (qs : List (Nat × Value)) (cs : List AV) (C : Array Value) (cs' : List AV), CellsRel ι cs C ->
  ps.length = qs.length -> (∀ (i : Nat) p q, ps[i]? = some p -> qs[i]? = some q -> p.1 = q.1 /\ rel ι p.2 q.2) -> a6c place cs ps = some cs' -> ∃ C', Instr.fill place C qs = some C' /\ CellsRel ι cs' C' /\ C'.size = C.size
 | [], [], cs, C, cs', h, _, _, hf => by
  simp only [a6c, Option.some.injEq] at hf; subst hf
  exact ⟨C, rfl, h, rfl⟩
 | [], _ :: _, cs, C, cs', _, hl, _, _ => by simp at hl
 | _ :: _, [], cs, C, cs', _, hl, _, _ => by simp at hl
 | (i, v) :: ps, (i', c) :: qs, cs, C, cs', h, hl, hr, hf => by
  obtain ⟨e, hv⟩ := hr 0 _ _ rfl rfl
  simp only at e hv
  subst e
  simp only [a6c] at hf
  cases hp : place i with
  | none => simp [hp] at hf
  | some os =>
   obtain ⟨off, size⟩ := os
   simp only [hp] at hf
   cases hb : Nat.beq v.cells.length size && Nat.ble (off + v.cells.length) cs.length && a2a v.cells with
   | false => simp [hb] at hf
   | true =>
    simp only [hb, cond_true] at hf
    simp only [Bool.and_eq_true] at hb
    have h1 := Nat.eq_of_beq_eq_true hb.1.1
    have h2 := Nat.le_of_ble_eq_true hb.1.2
    obtain ⟨hcr, hone⟩ := b0f hv hb.2
    have hlen := a2c _ _ hcr
    have hcsz : c.cells.size = v.cells.length := by rw [hlen]; simp
    have hfit : off + 0 + c.cells.toList.length <= C.size := by rw [<- h.1]; simp; omega
    obtain ⟨g1, g2⟩ := b3x off c.cells.toList 0 C hfit
    have harr : (c.cells.zipIdx.foldl (fun cs (x : Value × Nat) => cs.setIfInBounds (off + x.2) x.1) C) = ((c.cells.toList.zipIdx 0).foldl (fun cs (x : Value × Nat) => cs.setIfInBounds (off + x.2) x.1) C) := by
     rw [<- Array.foldl_toList, Array.toList_zipIdx]
    obtain ⟨C', q1, q2, q3⟩ := b4m place ps qs (setCells cs off v.cells) ((c.cells.toList.zipIdx 0).foldl (fun cs (x : Value × Nat) => cs.setIfInBounds (off + x.2) x.1) C) cs'
     ⟨by rw [b0s, g1]; exact h.1, fun j u hj => by
      rw [a83 _ _ _ _ h2] at hj
      rw [g2 j]
      simp only [Nat.add_zero]
      by_cases hc : off <= j /\ j < off + v.cells.length
      ·rw [if_pos hc] at hj
       rw [if_pos (by omega)]
       obtain ⟨cc, s1, s2⟩ := a4i _ _ hcr _ _ hj
       exact ⟨cc, s1, hone cc (List.mem_of_getElem? s1), s2⟩
      ·rw [if_neg hc] at hj
       rw [if_neg (by omega)]
       exact h.2 j u hj⟩ (by simpa using hl) (fun k p q hp hq => hr (k + 1) p q (by simpa using hp) (by simpa using hq)) hf
    refine ⟨C', ?_, q2, by rw [q3, g1]⟩
    simp only [Instr.fill, hp]
    rw [if_neg (by rw [<- h.1]; simp; omega), harr]
    exact q1
theorem b6k {α β : Type} (w : World) (g : α -> Sem β) (h : α -> β) : ∀ (l : List α), (∀ x ∈ l, (g x).run P w = .ok (h x) w) -> (l.mapM g).run P w = .ok (l.map h) w
 | [], _ => rfl
 | x :: r, hh => by
  rw [List.mapM_cons]
  simp only [Sem.run_bind, hh x (by simp), Result.andThen_ok, b6k w g h r (fun y hy => hh y (by simp [hy])), Sem.run_pure, List.map_cons]
theorem a4p (z : List Value) : ∀ n, (a3z z n).length = n * z.length
 | 0 => by simp [a3z]
 | n + 1 => by simp only [a3z, List.length_append, List.length_map, a4p z n, Nat.add_mul]; omega
theorem a82 (z : List Value) (hz : 0 < z.length) : ∀ (n j : Nat), j < n * z.length -> (a3z z n)[j]? = some (.val (z.getD (j % z.length) undef))
 | 0, j, h => by simp at h
 | n + 1, j, h => by
  simp only [a3z]
  by_cases hj : j < z.length
  ·rw [List.getElem?_append_left (by simpa using hj), List.getElem?_map, List.getElem?_eq_getElem hj, Nat.mod_eq_of_lt hj, List.getD_eq_getElem?_getD, List.getElem?_eq_getElem hj]
   rfl
  ·have hm : j % z.length = (j - z.length) % z.length := Nat.mod_eq_sub_mod (by omega)
   rw [List.getElem?_append_right (by simp; omega), List.length_map, a82 z hz n (j - z.length) (by rw [Nat.add_mul] at h; omega), hm]
theorem b0a {z : List Value} (h : a2a (z.map .val) = true) : ∀ u ∈ z, u.oneCell' = true := by
 intro u hu
 obtain ⟨m, hm⟩ := List.mem_iff_getElem?.1 hu
 obtain ⟨c, q1, q2, q3⟩ := (CellsRel.vals (fun _ => none) z h).2 m (.val u) (by simp [hm])
 simp only [rel] at q3
 rw [<- q3]; exact q2
section
variable {ι : Lay} {bs : Nat -> Blk} {f f' : Nat} {w : World}
theorem b3t {ρ : Operand -> AV} {ca : Operand -> Value} (hρ : ∀ x, rel ι (ρ x) (ca x)) (parts : Array (Nat × Operand)) :
  let ps := parts.toList.map fun x => (x.1, ρ x.2)
  let qs := (parts.map fun (i, x) => (i, ca x)).toList
  ps.length = qs.length /\ ∀ (i : Nat) p q, ps[i]? = some p -> qs[i]? = some q -> p.1 = q.1 /\ rel ι p.2 q.2 := by
 refine ⟨by simp, fun i p q hp hq => ?_⟩
 simp only [Array.toList_map] at hq
 rw [List.getElem?_map] at hp hq
 cases h : parts.toList[i]? with
 | none => simp [h] at hp
 | some x =>
  simp only [h, Option.map_some, Option.some.injEq] at hp hq
  subst hp; subst hq
  exact ⟨rfl, hρ x.2⟩
theorem c18 {T : Tab} (hT : a2n P T) {ρ : Operand -> AV} {ca : Operand -> Value} (hρ : ∀ x, rel ι (ρ x) (ca x)) (hf : ∀ b, f <= b -> b < f' -> ι b = none /\ bs b = .gone)
  (t : TypeId) (parts : Array (Nat × Operand)) {p : List Prop} {v : AV} {up : List (Nat × Blk)} (h : aop T (.build t parts) ρ bs f = some (p, v, up)) :
  Post ι bs f f' w ((do pure (.value (<- Instr.build t (parts.map fun (i, x) => (i, ca x)))) : Sem Next).run P w) v up := by
 simp only [aop] at h
 obtain ⟨hl, hr⟩ := b3t hρ parts
 have fin : ∀ {place : Nat -> Option (Nat × Nat)} {z : Value} {cs : List AV}, a6c place (z.cells.toList.map .val) (parts.toList.map fun x => (x.1, ρ x.2)) = some cs -> a2a (z.cells.toList.map .val) = true ->
   ∃ C, Instr.fill place z.cells (parts.map fun (i, x) => (i, ca x)).toList = some C /\ rel ι (.agg cs) (.agg C) := by
  intro place z cs hfill hz
  obtain ⟨C, q1, q2, _⟩ := b4m place _ _ _ _ _ (CellsRel.vals ι z.cells.toList hz) hl hr hfill
  obtain ⟨r1, r2⟩ := q2.relL
  exact ⟨C, by simpa using q1, by simp only [rel]; exact ⟨C.toList, by simp, r1, r2⟩⟩
 split at h
 ·rename_i fs z _ _ _ hg
  split at h
  ·rename_i cs hfill
   obtain ⟨hp, h⟩ := a02 h
   simp only [Prod.mk.injEq] at h
   obtain ⟨_, rfl, rfl⟩ := h
   have htk := Tab.get_ok hT hg
   obtain ⟨zv, hz1, hz2⟩ := b2f htk w
   obtain ⟨fa, hu, hfs, hfo⟩ := a6i htk rfl
   simp only at hz2
   subst hz2
   obtain ⟨C, q1, q2⟩ := fin hfill hp
   have hm : (fa.mapM fun f => do pure (f.offset, <- sizeOf f.type) : Sem (Array (Nat × Nat))).run P w = .ok (fa.map fun f => (f.offset, a2v P f.type)) w := by
    rw [Array.mapM_eq_mapM_toList]
    simp only [Sem.run_map]
    rw [b6k w _ (fun f => (f.offset, a2v P f.type)) fa.toList (fun x hx => ?_)]
    ·rw [Result.andThen_ok]; congr 1; exact (Array.toArray_toList (xs := fa.map _)).symm ▸ by rw [Array.toList_map]
    ·simp only [a3o, List.all_eq_true, Bool.and_eq_true] at hfo
     have := (hfo x hx).1
     cases hi : P.info? x.type with
     | none => simp [hi] at this
     | some i => simp [sizeOf, typeInfo, hi, a2v]
   have hplace : (fun i => ((fa.map fun f => (f.offset, a2v P f.type))[i]? : Option (Nat × Nat))) = (fun (i : Nat) => (fs[i]?).map fun (x : Nat × Nat × Bool) => (x.1, x.2.1)) := by
    funext i
    rw [hfs]
    rw [Array.getElem?_map, List.getElem?_map, Option.map_map, Array.getElem?_toList]
    rfl
   refine Post.pure hf (c := .agg C) ?_ q2
   simp only [Instr.build, Sem.run_bind, hz1, Result.andThen_ok, run_underlying hu, hm]
   rw [hplace, q1]
   rfl
  ·cases h
 ·rename_i n te z _ _ _ hg
  split at h
  ·rename_i de hde
   split at h
   ·rename_i cs hfill
    obtain ⟨hp, h⟩ := a02 h
    simp only [Prod.mk.injEq] at h
    obtain ⟨_, rfl, rfl⟩ := h
    have htk := Tab.get_ok hT hg
    obtain ⟨zv, hz1, hz2⟩ := b2f htk w
    simp only at hz2
    subst hz2
    have hu : P.underlying t = some (.array n te) := by
     obtain ⟨i, u, z, _, hu, _, _, _, _, hk', _⟩ := a2b htk
     simp only at hk'
     cases u <;> first | (exfalso; rcases a68 hk' with q | ⟨_, _, _, q⟩ <;> cases q; done) | simp at hk'
     rw [hk'.1, hk'.2]; exact hu
    obtain ⟨C, q1, q2⟩ := fin hfill hp
    refine Post.pure hf (c := .agg C) ?_ q2
    simp only [Instr.build, Sem.run_bind, hz1, Result.andThen_ok, run_underlying hu, a3v (Tab.get_ok hT hde)]
    rw [q1]
    rfl
   ·cases h
  ·cases h
 ·cases h
theorem b2j {T : Tab} (hT : a2n P T) {ρ : Operand -> AV} {ca : Operand -> Value} (hρ : ∀ x, rel ι (ρ x) (ca x)) (hf : ∀ b, f <= b -> b < f' -> ι b = none /\ bs b = .gone) (hff : f < f')
  (t : TypeId) (len : Nat) (parts : Array (Nat × Operand)) {p : List Prop} {v : AV} {up : List (Nat × Blk)} (h : aop T (.buildSlice t len parts) ρ bs f = some (p, v, up)) :
  Post ι bs f f' w ((do pure (.value (<- Instr.buildSlice t len (parts.map fun (i, x) => (i, ca x)))) : Sem Next).run P w) v up := by
 simp only [aop] at h
 split at h
 ·rename_i te _ _ _ _ hg
  split at h
  ·rename_i de hde
   split at h
   ·rename_i cs hfill
    obtain ⟨hp, h⟩ := a02 h
    simp only [Prod.mk.injEq] at h
    obtain ⟨_, rfl, rfl⟩ := h
    simp only [Bool.and_eq_true] at hp
    obtain ⟨⟨⟨hz, hzz⟩, hsz⟩, hlim⟩ := hp
    have hzz := Nat.eq_of_beq_eq_true hzz
    have hsz : 0 < de.sz := Nat.le_of_ble_eq_true hsz
    have hlim := Nat.le_of_ble_eq_true hlim
    have htk := Tab.get_ok hT hg
    have hte := Tab.get_ok hT hde
    obtain ⟨zv, hz1, hz2⟩ := b2f hte w
    have hu := a2r htk rfl
    have hzs : zv.cells.size = de.sz := by rw [<- hzz, hz2]; simp
    have h0 : CellsRel ι (a3z de.zero len) ((Array.range (len * de.sz)).map (zv.cells[· % zv.cells.size]!)) := by
     refine ⟨by rw [a4p, hzz]; simp, fun j u hj => ?_⟩
     have hjl : j < len * de.sz := by
      have := (List.getElem?_eq_some_iff.1 hj).1
      rw [a4p, hzz] at this; exact this
     rw [a82 _ (by omega) _ _ (by rw [hzz]; exact hjl), hzz] at hj
     cases hj
     have hm : j % de.sz < zv.cells.size := by rw [hzs]; exact Nat.mod_lt _ hsz
     have hget : de.zero.getD (j % de.sz) undef = zv.cells[j % de.sz] := by
      rw [hz2, List.getD_eq_getElem?_getD, Array.getElem?_toList, Array.getElem?_eq_getElem hm]; rfl
     refine ⟨zv.cells[j % de.sz], ?_, ?_, by simp only [rel]; exact hget.symm⟩
     ·simp [hjl, hzs, getElem!_pos zv.cells (j % de.sz) hm]
     ·exact b0a hz _ (by rw [hz2]; simp)
    obtain ⟨hl, hr⟩ := b3t hρ parts
    obtain ⟨C, q1, q2, q3⟩ := b4m _ _ _ _ _ _ h0 hl hr hfill
    have hCs : C.size = len * de.sz := by rw [q3]; simp
    have hne : ¬ (len * de.sz > 2 ^ 24) := by omega
    have hrun : ((do pure (.value (<- Instr.buildSlice t len (parts.map fun (i, x) => (i, ca x)))) : Sem Next).run P w) = .ok (.value (.slice (some ⟨w.heap.size, 0, none⟩) len len)) (w.alloc (.cells C te)) := by
     by_cases hl0 : len * de.sz = 0
     ·have h00 : (Array.range (len * de.sz)).map (zv.cells[· % zv.cells.size]!) = #[] := by rw [hl0]; simp
      rw [h00] at q1
      simp only [Instr.buildSlice, Sem.run_bind, run_underlying hu, Result.andThen_ok, a3v hte, if_neg hne, if_pos hl0, Sem.run_pure]
      rw [show ((Array.range (len * de.sz)).map fun x => (#[] : Array Value)[x % (#[] : Array Value).size]!) = #[] from by rw [hl0]; simp, q1]
      rfl
     ·simp only [Instr.buildSlice, Sem.run_bind, run_underlying hu, Result.andThen_ok, a3v hte, if_neg hne, if_neg hl0, Sem.run_pure, hz1]
      rw [q1]
      rfl
    have hlm : len <= maxLen := by
     have : len <= len * de.sz := Nat.le_mul_of_pos_right _ hsz
     simp only [maxLen]; omega
    refine a8d (w := w) (w1 := w) hf hff C te len _ rfl rfl ?_ ?_ ⟨rfl, rfl, rfl, rfl⟩ hrun
    ·intro ι' w' hι hext hw'
     refine .inr ⟨_, hι, Nat.le_refl _, fun i hi j hj => ?_, fun _ => ⟨hlm, C, 0, (Nat.zero_mul _).symm, hw', by rw [Nat.zero_add]; exact hCs⟩⟩
     have hq : i * de.sz + j < cs.length := by
      have : (i + 1) * de.sz <= len * de.sz := Nat.mul_le_mul_right _ hi
      rw [Nat.add_mul] at this
      rw [q2.1, hCs]; omega
     have hx : cs[i * de.sz + j]? = some (cs.getD (i * de.sz + j) .dead) := by
      rw [List.getD_eq_getElem?_getD, List.getElem?_eq_getElem hq]; rfl
     obtain ⟨c, s1, s2, s3⟩ := q2.2 _ _ hx
     refine ⟨c, ?_, s2, a2p hext _ _ s3⟩
     rw [cell_of_row w' _ _ C te (0, 0) hw', Nat.zero_add]; exact s1
    ·intro ι' hι hext
     simp only [rel]
     exact ⟨_, _, rfl, Nat.le_refl _, (fun m h => by cases h; rfl), (fun _ => ⟨_, hι, by simp, (fun h => by cases h)⟩)⟩
   ·cases h
  ·cases h
 ·cases h
theorem c0b {T : Tab} (hT : a2n P T) {t te : TypeId} {d de : TyD} (hd : T.get t = some d) (hk : d.k = .slice te) (hde : T.get te = some de) (hf : ∀ b, f <= b -> b < f' -> ι b = none /\ bs b = .gone) (hff : f < f')
  (k1 k2 : IntKind) (n m : Int) (h0 : 0 <= n) (hnm : n <= m) (hby : m * de.bytes <= 140737488355328) (hbp : 0 < de.bytes) (hz : a2a (de.zero.map .val) = true) (hzz : de.zero.length = de.sz) :
  Post ι bs f f' w ((do pure (.value (<- Instr.makeSlice t (.int k1 n) (.int k2 m))) : Sem Next).run P w) (.sl f de.sz 0 n.toNat none) [(f, .arr true te de.sz n.toNat fun _ j => .val (de.zero.getD j undef))] := by
 have htk := Tab.get_ok hT hd
 have hte := Tab.get_ok hT hde
 have hu := a2r htk hk
 obtain ⟨i, u, z, hi, hu2, hz', e1, e2, e3, _⟩ := a2b hte
 have hbound : m <= 140737488355328 := by
  have : m * 1 <= m * (de.bytes : Int) := Int.mul_le_mul_of_nonneg_left (by omega) (by omega)
  omega
 have hzs : z.cells.size = de.sz := by rw [<- hzz, e3]; simp
 have hrun := run_make (P := P) w t te i z hu hi hz' k1 k2 n m h0 hnm (by rw [<- e2, Int.mul_comm]; omega) (by omega)
 have hrun' : ((do pure (.value (<- Instr.makeSlice t (.int k1 n) (.int k2 m))) : Sem Next).run P w) = .ok (.value (.slice (some ⟨w.heap.size, 0, none⟩) n.toNat m.toNat)) (w.alloc (.cells (madeCells z.cells (m.toNat * i.size)) te)) := by
  simp only [Sem.run_bind, hrun, Result.andThen_ok, Sem.run_pure]
 refine a8d (w := w) (w1 := w) hf hff (madeCells z.cells (m.toNat * i.size)) te m.toNat _ rfl rfl ?_ ?_ ⟨rfl, rfl, rfl, rfl⟩ hrun'
 ·intro ι' w' hι hext hw'
  refine .inr ⟨_, hι, by simp only; omega, fun i' hi' j hj => ?_, fun _ => ⟨by simp only [maxLen]; omega, _, 0, (Nat.zero_mul _).symm, hw', by simp [madeCells, e1]⟩⟩
  have hlt : i' * de.sz + j < m.toNat * i.size := by
   have : (i' + 1) * de.sz <= m.toNat * de.sz := Nat.mul_le_mul_right _ (by omega)
   rw [Nat.add_mul] at this
   rw [<- e1]; omega
  refine ⟨de.zero.getD j undef, ?_, ?_, by simp [rel]⟩
  ·rw [cell_of_row w' _ _ _ te (0, 0) hw', Nat.zero_add]
   have hmod : (i' * de.sz + j) % de.sz = j := by rw [Nat.mul_comm, Nat.mul_add_mod, Nat.mod_eq_of_lt hj]
   simp only [madeCells, Array.getElem?_map, Array.getElem?_range, hlt, if_true, Option.map_some, hzs, hmod]
   rw [e3, List.getD_eq_getElem?_getD, Array.getElem?_toList]
   have hjz : j < z.cells.size := by omega
   simp [Array.getElem?_eq_getElem hjz, getElem!_pos z.cells j hjz]
  ·refine b0a hz _ ?_
   rw [List.getD_eq_getElem?_getD, List.getElem?_eq_getElem (by omega)]
   exact List.getElem_mem _
 ·intro ι' hι hext
  simp only [rel]
  refine ⟨_, _, rfl, by omega, (fun m h => by cases h), (fun _ => ⟨_, hι, by simp, fun _ => by simp⟩)⟩
end
end Go.Vx
namespace Go.Vx
variable {P : Program} {ι : Lay} {w : World}
theorem b2t {e : TypeId} (he : P.underlying e = some (.int .i64)) {cs : Array Value} {j : Nat} {v : Value} (h : cs[j]? = some v) : (part e cs j).run P w = .ok v w := by
 have hag : (isAgg e).run P w = .ok false w := by simp [isAgg, run_underlying he]
 simp [part, hag, h]
theorem a6x (a : List Int) (j : Nat) (h : j < a.length) : (a.map (Value.int .i64)).toArray[j]? = some (.int .i64 (a.getD j 0)) := by
 simp [List.getD_eq_getElem?_getD, h]
theorem c08 {kt e : TypeId} {m : Nat} {i : TypeInfo} (hu : P.underlying kt = some (.array m e)) (he : P.underlying e = some (.int .i64)) (hi : P.info? e = some i) (hc : P.cellsOf e = 1) (n : List Int) (hn : n.length = m) (em : Bool) (d : Nat) :
  (Instr.checkKey em (d + 2) kt (a3c (some m) n)).run P w = .ok () w := by
 have hone : ∀ v : Value, (Instr.checkKey em (d + 1) e v).run P w = .ok () w := fun v => by
  rw [Instr.checkKey]
  simp only [Sem.run_bind, run_underlying he, Result.andThen_ok]
  rfl
 rw [show d + 2 = (d + 1) + 1 from rfl, Instr.checkKey]
 simp only [a3c, Sem.run_bind, run_underlying hu, Result.andThen_ok]
 simp only [Std.Legacy.Range.forIn_eq_forIn_range', Std.Legacy.Range.size, Nat.sub_zero, Nat.add_one_sub_one, Nat.div_one]
 have hall : ∀ j ∈ List.range' 0 m, j < n.length := fun j hj => by
  have := List.mem_range'_1.1 hj; omega
 generalize List.range' 0 m = is at hall
 induction is with
 | nil => simp
 | cons j is ih =>
  have hj := hall j (by simp)
  have p1 : (part e (n.map (Value.int .i64)).toArray (j * P.cellsOf e)).run P w = .ok (.int .i64 (n.getD j 0)) w := b2t he (by rw [hc, Nat.mul_one]; exact a6x n j hj)
  simp only [List.forIn_cons, Sem.run_bind, run_sizeOf w hi, Result.andThen_ok, p1, hone, Sem.run_pure]
  exact ih (fun y hy => hall y (by simp [hy]))
theorem b4d {e : TypeId} (he : P.underlying e = some (.int .i64)) (hc : P.cellsOf e = 1) (d : Nat) (a b : List Int) : ∀ (is : List Nat), (∀ j ∈ is, j < a.length /\ j < b.length) ->
  (Op.eqItems (d + 1) e (P.cellsOf e) (a.map (Value.int .i64)).toArray (b.map (Value.int .i64)).toArray is).run P w = .ok (is.all fun j => a.getD j 0 == b.getD j 0) w
 | [], _ => by simp [Op.eqItems]
 | j :: is, h => by
  obtain ⟨h1, h2⟩ := h j (by simp)
  have p1 : (part e (a.map (Value.int .i64)).toArray (j * P.cellsOf e)).run P w = .ok (.int .i64 (a.getD j 0)) w := b2t he (by rw [hc, Nat.mul_one]; exact a6x a j h1)
  have p2 : (part e (b.map (Value.int .i64)).toArray (j * P.cellsOf e)).run P w = .ok (.int .i64 (b.getD j 0)) w := b2t he (by rw [hc, Nat.mul_one]; exact a6x b j h2)
  have p3 := run_equalIn_int (P := P) w d e .i64 .i64 (a.getD j 0) (b.getD j 0) he
  have ih := b4d he hc d a b is fun y hy => h y (by simp [hy])
  simp only [Op.eqItems, Sem.run_bind, p1, p2, p3, Result.andThen_ok]
  cases hq : (a.getD j 0 == b.getD j 0) with
  | false => rw [List.all_cons, hq]; simp
  | true => rw [List.all_cons, hq]; simpa using ih
theorem c00 {kt e : TypeId} {m : Nat} {i : TypeInfo} (hu : P.underlying kt = some (.array m e)) (he : P.underlying e = some (.int .i64)) (hi : P.info? e = some i) (hc : P.cellsOf e = 1) (a b : List Int) (ha : a.length = m) (hb : b.length = m) :
  (Op.equal kt (a3c (some m) a) (a3c (some m) b)).run P w = .ok (decide (a = b)) w := by
 have h := run_equalIn_array (P := P) w 9999 (a.map (Value.int .i64)).toArray (b.map (Value.int .i64)).toArray hu hi
 have h2 := b4d (P := P) (w := w) he hc 9998 a b (List.range m) fun j hj => by have := List.mem_range.1 hj; omega
 have e1 : ((List.range m).all fun j => a.getD j 0 == b.getD j 0) = decide (a = b) := by
  rw [Bool.eq_iff_iff]
  simp only [List.all_eq_true, List.mem_range, beq_iff_eq, decide_eq_true_eq]
  constructor
  ·intro hh
   apply List.ext_getElem (by omega)
   intro j h1 h2
   have := hh j (by omega)
   simpa [List.getD_eq_getElem?_getD, h1, h2] using this
  ·rintro rfl _ _; rfl
 rw [e1] at h2
 exact h.trans h2
structure KeyR (P : Program) (w : World) (kt : TypeId) (ka : Option Nat) (n : List Int) : Prop where
 check : ∀ em : Bool, (Instr.checkKey em 10000 kt (a3c ka n)).run P w = .ok () w
 len : n.length = ka.getD 1
 find : ∀ (ι : Lay) (ks : List (List Int)) (c : List Int -> AV) (es : List MapEntry), MapR ι ka ks c es ->
  (ks.contains n = false /\ (Instr.findKey kt (a3c ka n) es).run P w = .ok none w) \/
  ∃ j e, ks[j]? = some n /\ es[j]? = some e /\ ks.contains n = true /\ (Instr.findKey kt (a3c ka n) es).run P w = .ok (some (j, e.val)) w /\ e.key = a3c ka n
theorem b1v {kt e : TypeId} {m : Nat} {i : TypeInfo} (hu : P.underlying kt = some (.array m e)) (he : P.underlying e = some (.int .i64)) (hi : P.info? e = some i) (hc : P.cellsOf e = 1) (n : List Int) (hn : n.length = m) :
  ∀ (es : List MapEntry) (ks : List (List Int)) (s : Nat), es.map (·.key) = ks.map (a3c (some m)) -> (∀ k ∈ ks, k.length = m) ->
  (ks.contains n = false /\ (Instr.findAsking kt (a3c (some m) n) es s).run P w = .ok none w) \/
  ∃ j x, ks[j]? = some n /\ es[j]? = some x /\ ks.contains n = true /\ (Instr.findAsking kt (a3c (some m) n) es s).run P w = .ok (some (s + j, x.val)) w /\ x.key = a3c (some m) n
 | [], ks, s, hk, _ => by
  cases ks with
  | nil => exact .inl ⟨rfl, by simp [Instr.findAsking]⟩
  | cons a r => simp at hk
 | x :: es, ks, s, hk, hl => by
  cases ks with
  | nil => simp at hk
  | cons a r =>
   simp only [List.map_cons, List.cons.injEq] at hk
   obtain ⟨h1, h2⟩ := hk
   have q := c00 (w := w) hu he hi hc n a hn (hl a (by simp))
   rw [<- h1] at q
   by_cases hna : n = a
   ·subst hna
    refine .inr ⟨0, x, rfl, rfl, by simp, ?_, h1⟩
    simp [Instr.findAsking, q]
   ·rcases b1v hu he hi hc n hn es r (s + 1) h2 (fun k hk => hl k (by simp [hk])) with ⟨a1, a2⟩ | ⟨j, y, a1, a2, a3, a4, a5⟩
    ·refine .inl ⟨?_, ?_⟩
     ·rw [List.contains_cons, a1, Bool.or_false]
      simpa using hna
     ·simp [Instr.findAsking, q, hna, a2]
    ·refine .inr ⟨j + 1, y, a1, a2, ?_, ?_, a5⟩
     ·rw [List.contains_cons, a3, Bool.or_true]
     ·simp only [Instr.findAsking, Sem.run_bind, q, Result.andThen_ok, decide_eq_true_eq, hna, if_false, a4]
      congr 3; omega
theorem KeyR.arr {kt e : TypeId} {m : Nat} {i : TypeInfo} (hu : P.underlying kt = some (.array m e)) (he : P.underlying e = some (.int .i64)) (hi : P.info? e = some i) (hc : P.cellsOf e = 1) (n : List Int) (hn : n.length = m) : KeyR P w kt (some m) n where
 check em := c08 hu he hi hc n hn em 9998
 len := hn
 find ι ks c es h := by
  have hf : (Instr.findKey kt (a3c (some m) n) es).run P w = (Instr.findAsking kt (a3c (some m) n) es).run P w := by
   cases es with
   | nil => simp [Instr.findKey, run_underlying hu, Instr.findNow, Instr.findAsking]
   | cons e es => simp [Instr.findKey, run_underlying hu, Instr.findNow, Instr.sameNow]
  rw [hf]
  rcases b1v (w := w) hu he hi hc n hn es ks 0 h.keys (fun k hk => h.len k hk) with q | ⟨j, x, a1, a2, a3, a4, a5⟩
  ·exact .inl q
  ·rw [Nat.zero_add] at a4
   exact .inr ⟨j, x, a1, a2, a3, a4, a5⟩
end Go.Vx
namespace Go.Vx
variable {P : Program} {ι : Lay} {w : World}
def b4x (P : Program) : List Field -> Nat -> Prop
 | [], _ => True
 | f :: r, i => (f.offset = i /\ f.name ≠ "_" /\ ∃ k, P.underlying f.type = some (.int k)) /\ b4x P r (i + 1)
theorem b6e : ∀ (fs : List Field) (i : Nat) (ks : List Bool), c3g P (c4u P 3) fs i = some ks -> (∀ f ∈ fs, b06 P f.type = false) -> ks.all id = true -> b4x P fs i /\ ks.length = fs.length
 | [], i, ks, h, _, _ => by
  simp only [c3g, Option.some.injEq] at h
  subst h; exact ⟨True.intro, rfl⟩
 | f :: r, i, ks, h, ha, hk => by
  simp only [c3g] at h
  cases hq : (Nat.beq f.offset i && f.name != "_") with
  | false => rw [hq] at h; cases h
  | true =>
   rw [hq] at h
   simp only [cond_true] at h
   simp only [Bool.and_eq_true, bne_iff_ne, ne_eq] at hq
   have ho := Nat.eq_of_beq_eq_true hq.1
   split at h
   ·rename_i k hgk
    split at h
    ·rename_i l hl
     simp only [Option.some.injEq] at h
     subst h
     rw [List.all_append, Bool.and_eq_true] at hk
     have hag := ha f (by simp)
     simp only [c4u] at hgk
     split at hgk
     ·rename_i k' hu
      simp only [Option.some.injEq] at hgk
      subst hgk
      obtain ⟨h1, h2⟩ := b6e r (i + 1) l hl (fun g hg => ha g (by simp [hg])) hk.2
      exact ⟨⟨⟨ho, hq.2, k', hu⟩, h1⟩, by simp [h2]⟩
     ·simp only [Option.some.injEq] at hgk
      subst hgk
      simp at hk
     ·rename_i fs' hu
      simp [b06, hu] at hag
     ·cases hgk
    ·cases h
   ·cases h
theorem a96 {e : TypeId} {k : IntKind} (he : P.underlying e = some (.int k)) {cs : Array Value} {j : Nat} {v : Value} (h : cs[j]? = some v) : (part e cs j).run P w = .ok v w := by
 have hag : (isAgg e).run P w = .ok false w := by simp [isAgg, run_underlying he]
 simp [part, hag, h]
theorem c2j {kt : TypeId} {fs : Array Field} (hu : P.underlying kt = some (.struct fs)) (hf : b4x P fs.toList 0) (n : List Int) (hn : n.length = fs.toList.length) (em : Bool) (d : Nat) :
  (Instr.checkKey em (d + 2) kt (a3c (some n.length) n)).run P w = .ok () w := by
 have hone : ∀ (e : TypeId) (k : IntKind) (v : Value), P.underlying e = some (.int k) -> (Instr.checkKey em (d + 1) e v).run P w = .ok () w := fun e k v he => by
  rw [Instr.checkKey]
  simp only [Sem.run_bind, run_underlying he, Result.andThen_ok]
  rfl
 rw [show d + 2 = (d + 1) + 1 from rfl, Instr.checkKey]
 simp only [a3c, Sem.run_bind, run_underlying hu, Result.andThen_ok]
 rw [<- Array.forIn_toList]
 have key : ∀ (r : List Field) (i : Nat), b4x P r i -> i + r.length = n.length ->
   (forIn r PUnit.unit fun f _ => (do
    if f.name ≠ "_" then
     Instr.checkKey em (d + 1) f.type (<- part f.type (n.map (Value.int .i64)).toArray f.offset)
     pure (ForInStep.yield PUnit.unit)
    else pure (ForInStep.yield PUnit.unit) : Sem (ForInStep PUnit))).run P w = .ok PUnit.unit w := by
  intro r
  induction r with
  | nil => intro i _ _; simp
  | cons f r ih =>
   intro i hi hl
   obtain ⟨⟨h1, h2, k, h3⟩, h4⟩ := hi
   simp only [List.length_cons] at hl
   have p1 : (part f.type (n.map (Value.int .i64)).toArray f.offset).run P w = .ok (.int .i64 (n.getD i 0)) w := a96 h3 (by rw [h1]; exact a6x n i (by omega))
   simp only [List.forIn_cons, h2, ne_eq, not_false_eq_true, if_true, Sem.run_bind, p1, Result.andThen_ok, hone f.type k _ h3, Sem.run_pure]
   exact ih (i + 1) h4 (by omega)
 have := key fs.toList 0 hf (by omega)
 simp only [this, Result.andThen_ok, Sem.run_pure]
theorem b3e {a b : List Int} (hab : a.length = b.length) (d : Nat) : ∀ (r : List Field) (i : Nat), b4x P r i -> i + r.length = a.length ->
  (Op.eqFields (d + 1) (a.map (Value.int .i64)).toArray (b.map (Value.int .i64)).toArray r).run P w = .ok (decide (a.drop i = b.drop i)) w
 | [], i, _, hl => by
  simp only [List.length_nil, Nat.add_zero] at hl
  rw [List.drop_of_length_le (by omega), List.drop_of_length_le (by omega)]
  rfl
 | f :: r, i, hi, hl => by
  obtain ⟨⟨h1, h2, k, h3⟩, h4⟩ := hi
  simp only [List.length_cons] at hl
  have ha : i < a.length := by omega
  have hb : i < b.length := by omega
  have p1 : (part f.type (a.map (Value.int .i64)).toArray f.offset).run P w = .ok (.int .i64 (a.getD i 0)) w := a96 h3 (by rw [h1]; exact a6x a i ha)
  have p2 : (part f.type (b.map (Value.int .i64)).toArray f.offset).run P w = .ok (.int .i64 (b.getD i 0)) w := a96 h3 (by rw [h1]; exact a6x b i hb)
  have p3 := run_equalIn_int (P := P) w d f.type .i64 k (a.getD i 0) (b.getD i 0) h3
  have ih := b3e hab d r (i + 1) h4 (by omega)
  have e : decide (a.drop i = b.drop i) = ((a.getD i 0 == b.getD i 0) && decide (a.drop (i + 1) = b.drop (i + 1))) := by
   have g1 : a.getD i 0 = a[i] := by simp [List.getD_eq_getElem?_getD, ha]
   have g2 : b.getD i 0 = b[i] := by simp [List.getD_eq_getElem?_getD, hb]
   rw [List.drop_eq_getElem_cons ha, List.drop_eq_getElem_cons hb, g1, g2, Bool.eq_iff_iff]
   simp only [decide_eq_true_eq, List.cons.injEq, Bool.and_eq_true, beq_iff_eq]
  rw [e]
  simp only [Op.eqFields, ne_eq, h2, not_false_eq_true, if_true, Sem.run_bind, p1, p2, p3, Result.andThen_ok]
  cases hq : (a.getD i 0 == b.getD i 0) with
  | true => simpa using ih
  | false => simp
theorem c3o {kt : TypeId} {fs : Array Field} (hu : P.underlying kt = some (.struct fs)) (hst : P.stoodInHeld kt = false) (hf : b4x P fs.toList 0) {m : Nat} (hm : m = fs.toList.length) (a b : List Int) (ha : a.length = m) (hb : b.length = m) :
  (Op.equal kt (a3c (some m) a) (a3c (some m) b)).run P w = .ok (decide (a = b)) w := by
 have hfo : P.fieldsOf kt = fs := by simp [Program.fieldsOf, hu]
 have h := run_equalIn_struct (P := P) w 9999 kt (a.map (Value.int .i64)).toArray (b.map (Value.int .i64)).toArray (by rw [hfo]; exact hu) hst
 have h2 := b3e (P := P) (w := w) (a := a) (b := b) (by omega) 9998 fs.toList 0 hf (by omega)
 rw [List.drop_zero, List.drop_zero] at h2
 rw [hfo] at h
 exact h.trans h2
theorem b1p {kt : TypeId} {m : Nat} (heq : ∀ a b : List Int, a.length = m -> b.length = m -> (Op.equal kt (a3c (some m) a) (a3c (some m) b)).run P w = .ok (decide (a = b)) w) (n : List Int) (hn : n.length = m) :
  ∀ (es : List MapEntry) (ks : List (List Int)) (s : Nat), es.map (·.key) = ks.map (a3c (some m)) -> (∀ k ∈ ks, k.length = m) ->
  (ks.contains n = false /\ (Instr.findAsking kt (a3c (some m) n) es s).run P w = .ok none w) \/
  ∃ j x, ks[j]? = some n /\ es[j]? = some x /\ ks.contains n = true /\ (Instr.findAsking kt (a3c (some m) n) es s).run P w = .ok (some (s + j, x.val)) w /\ x.key = a3c (some m) n
 | [], ks, s, hk, _ => by
  cases ks with
  | nil => exact .inl ⟨rfl, by simp [Instr.findAsking]⟩
  | cons a r => simp at hk
 | x :: es, ks, s, hk, hl => by
  cases ks with
  | nil => simp at hk
  | cons a r =>
   simp only [List.map_cons, List.cons.injEq] at hk
   obtain ⟨h1, h2⟩ := hk
   have q := heq n a hn (hl a (by simp))
   rw [<- h1] at q
   by_cases hna : n = a
   ·subst hna
    refine .inr ⟨0, x, rfl, rfl, by simp, ?_, h1⟩
    simp [Instr.findAsking, q]
   ·rcases b1p heq n hn es r (s + 1) h2 (fun k hk => hl k (by simp [hk])) with ⟨a1, a2⟩ | ⟨j, y, a1, a2, a3, a4, a5⟩
    ·refine .inl ⟨?_, ?_⟩
     ·rw [List.contains_cons, a1, Bool.or_false]
      simpa using hna
     ·simp [Instr.findAsking, q, hna, a2]
    ·refine .inr ⟨j + 1, y, a1, a2, ?_, ?_, a5⟩
     ·rw [List.contains_cons, a3, Bool.or_true]
     ·simp only [Instr.findAsking, Sem.run_bind, q, Result.andThen_ok, decide_eq_true_eq, hna, if_false, a4]
      congr 3; omega
theorem KeyR.struct {kt : TypeId} {fs : Array Field} (hu : P.underlying kt = some (.struct fs)) (hst : P.stoodInHeld kt = false) (hf : b4x P fs.toList 0) {m : Nat} (hm : m = fs.toList.length) (n : List Int) (hn : n.length = m) : KeyR P w kt (some m) n where
 check em := by
  have := c2j (P := P) (w := w) hu hf n (by omega) em 9998
  rwa [hn] at this
 len := hn
 find ι ks c es h := by
  have hf' : (Instr.findKey kt (a3c (some m) n) es).run P w = (Instr.findAsking kt (a3c (some m) n) es).run P w := by
   cases es with
   | nil => simp [Instr.findKey, run_underlying hu, Instr.findNow, Instr.findAsking]
   | cons e es => simp [Instr.findKey, run_underlying hu, Instr.findNow, Instr.sameNow]
  rw [hf']
  rcases b1p (w := w) (fun a b ha hb => c3o hu hst hf hm a b ha hb) n hn es ks 0 h.keys (fun k hk => h.len k hk) with q | ⟨j, x, a1, a2, a3, a4, a5⟩
  ·exact .inl q
  ·rw [Nat.zero_add] at a4
   exact .inr ⟨j, x, a1, a2, a3, a4, a5⟩
end Go.Vx
namespace Go.Vx
variable {P : Program} {ι : Lay} {bs : Nat -> Blk} {f f' : Nat} {w : World}
theorem b8q (hf : ∀ b, f <= b -> b < f' -> ι b = none /\ bs b = .gone) (hff : f < f') (o : Obj) (n : Nat) (k : Blk) (hkr : k.rw = true /\ k.plain = true)
  (hbr : ∀ ι' w', ι' f = some ⟨w.heap.size, 0, n⟩ -> Ext ι ι' -> w'.heap[w.heap.size]? = some o -> BR ι' w' f k) {v : AV} {c : Value}
  (hv : ∀ ι', ι' f = some ⟨w.heap.size, 0, n⟩ -> Ext ι ι' -> rel ι' v c) {r : Result Next} (hr : r = .ok (.value c) (w.alloc o)) :
  Post ι bs f f' w r v [(f, k)] := by
 let ι' : Lay := fun x => if x = f then some ⟨w.heap.size, 0, n⟩ else ι x
 have hself : ι' f = some ⟨w.heap.size, 0, n⟩ := by simp [ι']
 have hoth : ∀ x, x ≠ f -> ι' x = ι x := fun x hx => by simp [ι', hx]
 have hext : Ext ι ι' := fun b l hl => by
  by_cases hb : b = f
  ·subst hb; have := (hf b (by omega) (by omega)).1; rw [this] at hl; cases hl
  ·rw [hoth b hb]; exact hl
 have hnew : (w.alloc o).heap[w.heap.size]? = some o := (MapKept.heap_alloc w o).1
 have hsize : (w.alloc o).heap.size = w.heap.size + 1 := by simp
 refine ⟨c, _, ι', .inl hr, hv ι' hself hext, ?_⟩
 exact {
  ext := fun b hb => hoth b (by omega)
  br := by
   rintro b' ⟨k', hk'⟩
   simp only [List.mem_singleton, Prod.mk.injEq] at hk'
   obtain ⟨rfl, rfl⟩ := hk'
   rw [a0p]
   exact hbr ι' _ hself hext hnew
  os := rfl
  tape := rfl
  output := rfl
  size := by rw [hsize]; omega
  keep := fun g hg _ => (MapKept.heap_alloc w o).2 g hg
  lt := fun b l h1 h2 h3 => by
   by_cases hb : b = f
   ·subst hb; rw [hself] at h3; cases h3; rw [hsize]; exact Nat.lt_succ_self _
   ·rw [hoth b hb, (hf b h1 h2).1] at h3; cases h3
  fresh := fun b l h1 h2 _ h3 => by
   by_cases hb : b = f
   ·subst hb; rw [hself] at h3; cases h3; exact .inl (Nat.le_refl _)
   ·rw [hoth b hb, (hf b h1 h2).1] at h3; cases h3
  rwn := by
   intro b' k' hk' _
   simp only [List.mem_singleton, Prod.mk.injEq] at hk'
   rw [hk'.2]; exact hkr.1
  one := fun b b' l l' h1 h2 h3 h4 hne _ _ h5 h6 => by
   by_cases hb : b = f
   ·rw [hoth b' (by omega), (hf b' h3 h4).1] at h6; cases h6
   ·rw [hoth b hb, (hf b h1 h2).1] at h5; cases h5
  upr := by
   intro b' k' hk'
   simp only [List.mem_singleton, Prod.mk.injEq] at hk'
   exact .inl (by omega)
  pl := by
   intro b' k' hk'
   simp only [List.mem_singleton, Prod.mk.injEq] at hk'
   exact ⟨by rw [hk'.2]; exact hkr.2, .inl (by omega)⟩ }
theorem b77 (hf : ∀ b, f <= b -> b < f' -> ι b = none /\ bs b = .gone) (hff : f < f') (t : TypeId) (ka : Option Nat) {r : Result Next}
  (hr : r = .ok (.value (.map (some w.heap.size))) (w.alloc (.map #[] 0))) : Post ι bs f f' w r (.map f) [(f, .map ka [] fun _ => .dead)] :=
 b8q hf hff (.map #[] 0) 0 (.map ka [] fun _ => .dead) ⟨rfl, rfl⟩ (fun ι' w' h1 _ h2 => ⟨_, #[], 0, h1, h2, ⟨by simp, by simp, by simp, by simp⟩, MapKept.stamped_empty 0⟩)
  (v := .map f) (c := .map (some w.heap.size)) (fun ι' h1 _ => by simp only [rel]; exact ⟨_, h1, rfl⟩) hr
theorem a9g {ka : Option Nat} {a b : List Int} (ha : a.length = ka.getD 1) (hb : b.length = ka.getD 1) (h : a3c ka a = a3c ka b) : a = b := by
 cases ka with
 | none =>
  simp only [Option.getD_none] at ha hb
  match a, b, ha, hb with
  | [x], [y], _, _ => simp [a3c] at h; rw [h]
 | some n =>
  simp only [a3c, Value.agg.injEq] at h
  have h' := congrArg Array.toList h
  simp only at h'
  exact (List.map_inj_right (f := Value.int .i64) (fun x y e => by simpa using e)).1 h'
theorem c2m {d : TypeDesc} {ka : Option Nat} {ks : List (List Int)} {c : List Int -> AV} {es : List MapEntry} (h : MapR ι ka ks c es) (hd : ∀ m : List Int, MapKept.IsKey d (a3c ka m))
  {n : List Int} (hn : n.length = ka.getD 1) :
  (ks.contains n = false /\ Instr.findNow d (a3c ka n) es 0 = some none) \/
  ∃ j e, ks[j]? = some n /\ es[j]? = some e /\ ks.contains n = true /\ Instr.findNow d (a3c ka n) es 0 = some (some (j, e.val)) /\ e.key = a3c ka n := by
 have hat : ∀ (j : Nat) (e : MapEntry), es[j]? = some e -> ∃ m, ks[j]? = some m /\ e.key = a3c ka m := by
  intro j e he
  have h1 : (es.map (·.key))[j]? = some e.key := by rw [List.getElem?_map, he]; rfl
  rw [h.keys, List.getElem?_map] at h1
  cases hk : ks[j]? with
  | none => rw [hk] at h1; cases h1
  | some m => rw [hk] at h1; simp only [Option.map_some, Option.some.injEq] at h1; exact ⟨m, rfl, h1.symm⟩
 have hall : ∀ x ∈ es, MapKept.IsKey d x.key := by
  intro x hx
  obtain ⟨j, hj⟩ := List.mem_iff_getElem?.1 hx
  obtain ⟨m, _, e⟩ := hat j x hj
  rw [e]; exact hd m
 rcases MapKept.findNow_spec (hd n) es 0 hall with ⟨h1, h2⟩ | ⟨j, e, h1, h2, h3⟩
 ·refine .inl ⟨?_, h1⟩
  rw [Bool.eq_false_iff]
  intro hc
  have hm : n ∈ ks := by simpa using hc
  obtain ⟨j, hj⟩ := List.mem_iff_getElem?.1 hm
  have h4 : (es.map (·.key))[j]? = some (a3c ka n) := by rw [h.keys, List.getElem?_map, hj]; rfl
  rw [List.getElem?_map] at h4
  cases he : es[j]? with
  | none => rw [he] at h4; cases h4
  | some e =>
   rw [he] at h4
   simp only [Option.map_some, Option.some.injEq] at h4
   exact h2 e (List.mem_of_getElem? he) h4
 ·obtain ⟨m, hm, he⟩ := hat j e h2
  have : m = n := a9g (h.len m (List.mem_of_getElem? hm)) hn (by rw [<- he, h3])
  subst this
  exact .inr ⟨j, e, hm, h2, by simpa using List.mem_of_getElem? hm, by simpa using h1, h3⟩
theorem KeyR.int {kt : TypeId} (hu : P.underlying kt = some (.int .i64)) (n : List Int) (hn : n.length = 1) : KeyR P w kt none n where
 check em := MapKept.run_checkKey (P := P) (w := w) hu (by simp [MapKept.IsKey, a3c]) em 9999
 len := hn
 find ι ks c es h := by
  have hd : ∀ m : List Int, MapKept.IsKey (.int .i64) (a3c none m) := fun m => by simp [MapKept.IsKey, a3c]
  rcases c2m h hd hn with ⟨hc, hf⟩ | ⟨j, e, hkj, hej, hc, hf, hek⟩
  ·exact .inl ⟨hc, MapKept.run_findKey (P := P) (w := w) hu hf⟩
  ·exact .inr ⟨j, e, hkj, hej, hc, MapKept.run_findKey (P := P) (w := w) hu hf, hek⟩
theorem a7i {t e : TypeId} {n : Nat} {d : TyD} (h : a8x P t = some d) (hk : d.k = .array n e) : P.underlying t = some (.array n e) := by
 obtain ⟨i, u, z, _, hu, _, _, _, _, hk', _, _⟩ := a2b h
 rw [hk] at hk'
 cases u <;> first | (exfalso; rcases a68 hk' with q | ⟨_, _, _, q⟩ <;> cases q; done) | simp at hk'
 obtain ⟨rfl, rfl⟩ := hk'; exact hu
theorem a7c : ∀ {cs : List AV} {l : List Int} {us : List Value}, a5v cs = some l -> relL ι cs us -> us = l.map (Value.int .i64)
 | [], l, us, h, hr => by simp only [a5v, Option.some.injEq] at h; subst h; simpa [relL] using hr
 | x :: r, l, us, h, hr => by
  unfold a5v at h
  split at h
  ·rename_i heq; cases heq
  ·rename_i n r' heq
   obtain ⟨rfl, rfl⟩ := List.cons.inj heq
   split at h
   ·rename_i l' hl
    simp only [Option.some.injEq] at h
    subst h
    simp only [relL, rel] at hr
    obtain ⟨c, q, rfl, rfl, h2⟩ := hr
    rw [a7c hl h2]; rfl
   ·cases h
  ·cases h
theorem b6x {T : Tab} (hT : a2n P T) {kt : TypeId} {ka : Option Nat} (hk : c26 T kt = some ka) {v : AV} {c : Value} (hv : rel ι v c) {n : List Int} (hn : keyOf ka v = some n) (w : World) :
  c = a3c ka n /\ KeyR P w kt ka n := by
 unfold c26 at hk
 split at hk
 ·rename_i hd
  simp only [Option.some.injEq] at hk
  subst hk
  have hu := b6i (Tab.get_ok hT hd) rfl
  unfold keyOf at hn
  split at hn
  ·simp only [Option.some.injEq] at hn
   subst hn
   simp only [rel] at hv
   subst hv
   exact ⟨rfl, KeyR.int hu _ rfl⟩
  ·contradiction
  ·cases hn
 ·rename_i m e _ _ _ _ hd
  split at hk
  ·rename_i de hde
   split at hk
   ·rename_i hki
    obtain ⟨hs, rfl⟩ := a02 hk
    have hs := Nat.eq_of_beq_eq_true hs
    have hu := a7i (Tab.get_ok hT hd) rfl
    have he := b6i (Tab.get_ok hT hde) hki
    obtain ⟨i, _, _, hi, _, _, hsz, _⟩ := a2b (Tab.get_ok hT hde)
    have hc : P.cellsOf e = 1 := by
     have : P.cellsOf e = i.size := by simp [Program.cellsOf, hi]
     rw [this, <- hsz, hs]
    unfold keyOf at hn
    split at hn
    ·contradiction
    ·rename_i m' cs heq
     simp only [Option.some.injEq] at heq
     subst heq
     split at hn
     ·rename_i l hl
      obtain ⟨hlen, rfl⟩ := a02 hn
      have hlen := Nat.eq_of_beq_eq_true hlen
      simp only [rel] at hv
      obtain ⟨us, rfl, hus, _⟩ := hv
      have := a7c hl hus
      subst this
      exact ⟨rfl, KeyR.arr hu he hi hc _ hlen⟩
     ·cases hn
    ·cases hn
   ·cases hk
  ·cases hk
 ·rename_i _ fl _ _ _ ks hd
  obtain ⟨hq, rfl⟩ := a02 hk
  simp only [Bool.and_eq_true] at hq
  have htk := Tab.get_ok hT hd
  have he := c7v htk
  simp only at he
  unfold c8f at he
  split at he
  ·rename_i fs hu
   cases hst : P.stoodInHeld kt with
   | true => rw [hst] at he; simp at he
   | false =>
    cases hg : P.eqGuardType P.depth kt with
    | true => rw [hst, hg] at he; simp at he
    | false =>
     rw [hst, hg] at he
     simp only [Bool.not_false, Bool.and_self, cond_true] at he
     obtain ⟨fs', hu', hfl, _⟩ := a6i htk rfl
     rw [hu] at hu'
     simp only [Option.some.injEq, TypeDesc.struct.injEq] at hu'
     subst hu'
     have hag : ∀ f ∈ fs.toList, b06 P f.type = false := fun f hf => by
      have hm : (f.offset, a2v P f.type, b06 P f.type) ∈ fl := by rw [hfl]; exact List.mem_map.2 ⟨f, hf, rfl⟩
      have := List.all_eq_true.1 hq.2 _ hm
      simpa using this
     obtain ⟨hi, hl⟩ := b6e fs.toList 0 ks he.symm hag hq.1
     unfold keyOf at hn
     split at hn
     ·contradiction
     ·rename_i m' cs heq
      simp only [Option.some.injEq] at heq
      subst heq
      split at hn
      ·rename_i l hl2
       obtain ⟨hlen, rfl⟩ := a02 hn
       have hlen := Nat.eq_of_beq_eq_true hlen
       simp only [rel] at hv
       obtain ⟨us, rfl, hus, _⟩ := hv
       have := a7c hl2 hus
       subst this
       exact ⟨rfl, KeyR.struct hu hst hi hl _ hlen⟩
      ·cases hn
     ·cases hn
  ·cases he
 ·cases hk
theorem b6u {t : TypeId} {d : TyD} (h : a8x P t = some d) {v : AV} (hv : c0d d = some v) (w : World) : ∃ z : Value, (zeroValue t).run P w = .ok z w /\ rel ι v z := by
 obtain ⟨i, u, z, hi, hu, hz, _, _, h0, hk, _, hzo⟩ := a2b h
 refine ⟨z, by simp [zeroValue, typeInfo, hi, hz], ?_⟩
 unfold c0d at hv
 cases ha : d.k.agg with
 | true =>
  simp only [ha, cond_true] at hv
  obtain ⟨h1, rfl⟩ := a02 hv
  have hag : ∃ cs, z = .agg cs := by
   cases u <;> rw [hk] at ha <;> (try (rw [b14] at ha)) <;> simp [TK.agg] at ha <;> cases z <;> simp_all [a89]
  obtain ⟨cs, rfl⟩ := hag
  rw [h0] at h1 ⊢
  simp only [Value.cells] at h1 ⊢
  simp only [rel]
  refine ⟨cs.toList, by simp, a4b _ _, fun x hx => ?_⟩
  have hall : ∀ l : List Value, a2a (l.map .val) = true -> ∀ x ∈ l, x.oneCell' = true := by
   intro l
   induction l with
   | nil => intro _ x hx; cases hx
   | cons a r ih =>
    intro hh x hx
    simp only [List.map_cons, a2a, Bool.and_eq_true] at hh
    rcases List.mem_cons.1 hx with rfl | hx
    ·cases x <;> simp_all [AV.one, Value.oneCell']
    ·exact ih hh.2 x hx
  exact hall _ h1 x hx
 | false =>
  simp only [ha, cond_false] at hv
  split at hv
  ·rename_i z' hz'
   simp only [Option.some.injEq] at hv
   subst hv
   simp only [rel]
   rw [h0] at hz'
   have hna : z.cells = #[z] := by
    cases u <;> rw [hk] at ha <;> (try (rw [b14] at ha)) <;> simp [TK.agg] at ha <;> cases z <;> simp_all [a89, Value.cells]
   rw [hna] at hz'
   simpa using hz'
  ·cases hv
theorem b40 {ok : Bool} {v : AV} {c : Value} (h : rel ι v c) (b : Bool) : rel ι (okV ok v b) (if ok then .tuple #[c, .bool b] else c) := by
 cases ok
 ·simpa [okV] using h
 ·simp only [okV, rel, if_true]
  exact ⟨[c, .bool b], rfl, by simp [relL, h, rel]⟩
theorem b96 {T : Tab} (hT : a2n P T) {ρ : Operand -> AV} {ca : Operand -> Value} (hρ : ∀ x, rel ι (ρ x) (ca x)) (hb : ∀ b, BR ι w b (bs b)) {o : Oper} {q : Bool} {v z : AV}
  (h : c6c T o.op ρ bs = some (q, v, z)) : ∃ c, (execOp ca o).run P w = .ok (.value c) w /\ (q = true -> rel ι v c) /\ (q = false -> rel ι z c) := by
 unfold c6c at h
 split at h
 ·rename_i t x ix ok ho
  split at h
  ·rename_i kt et _ _ _ _ hd
   have hum : P.underlying t = some (.map kt et) := by
    obtain ⟨i, u, z, _, hu, _, _, _, _, hk', hfo, _⟩ := a2b (Tab.get_ok hT hd)
    cases u <;> first | (exfalso; rcases a68 hk' with q | ⟨_, _, _, q⟩ <;> cases q; done) | simp at hk'
    obtain ⟨rfl, rfl⟩ := hk'; exact hu
   split at h
   ·rename_i ka' de hka hde
    split at h
    ·rename_i z0 n b hz hn hx
     split at h
     ·rename_i ka ks c hbb
      obtain ⟨hk, hh⟩ := a02 h
      have := b2u hk
      subst this
      obtain ⟨rfl, rfl, rfl⟩ : ks.contains n = q /\ okV ok (c n) true = v /\ okV ok z0 false = z := by simpa only [Prod.mk.injEq] using hh
      obtain ⟨hce, hK⟩ := b6x hT hka (hρ ix) hn w
      obtain ⟨zv, hzr, hzrel⟩ := b6u (ι := ι) (Tab.get_ok hT hde) hz w
      obtain ⟨l, es, clock, h1, h2, h3, _⟩ := a60 hbb (hb b)
      have hxx := hρ x
      rw [hx] at hxx
      simp only [rel] at hxx
      obtain ⟨l', h1', hxv⟩ := hxx
      rw [h1] at h1'; cases h1'
      have hg := MapKept.run_getObj_map (P := P) h2
      have hck := hK.check es.isEmpty
      rw [<- hce] at hck
      rcases hK.find ι ks c es.toList h3 with ⟨hc, hfk⟩ | ⟨j, e, hkj, hej, hc, hfk, hek⟩
      ·rw [<- hce] at hfk
       refine ⟨if ok then .tuple #[zv, .bool false] else zv, ?_, fun e => (by rw [hc] at e; cases e), fun _ => b40 hzrel false⟩
       simp [execOp, ho, Instr.lookup, hxv, run_underlying hum, hg, hck, hfk, hzr, Result.andThen]
      ·rw [<- hce] at hfk
       refine ⟨if ok then .tuple #[e.val, .bool true] else e.val, ?_, fun _ => b40 (h3.vals j n e hkj hej) true, fun e => (by rw [hc] at e; cases e)⟩
       simp [execOp, ho, Instr.lookup, hxv, run_underlying hum, hg, hck, hfk, Result.andThen]
     ·cases h
    ·rename_i z0 n hz hn hx
     simp only [Option.some.injEq, Prod.mk.injEq] at h
     obtain ⟨rfl, rfl, rfl⟩ := h
     obtain ⟨hce, hK⟩ := b6x hT hka (hρ ix) hn w
     obtain ⟨zv, hzr, hzrel⟩ := b6u (ι := ι) (Tab.get_ok hT hde) hz w
     have hxx := hρ x
     rw [hx] at hxx
     simp only [rel] at hxx
     have hck := hK.check true
     rw [<- hce] at hck
     have hfk : (Instr.findKey kt (ca ix) []).run P w = .ok none w := by
      rcases hK.find ι [] (fun _ => .dead) [] ⟨by simp, by simp, by simp, by simp⟩ with ⟨_, q⟩ | ⟨j, e, q, _⟩
      ·rw [hce]; exact q
      ·simp at q
     refine ⟨if ok then .tuple #[zv, .bool false] else zv, ?_, fun e => (by cases e), fun _ => b40 hzrel false⟩
     simp [execOp, ho, Instr.lookup, hxx, run_underlying hum, hck, hfk, hzr, Result.andThen]
    ·cases h
   ·cases h
  ·cases h
 ·cases h
theorem b3h (ka : Option Nat) (n : List Int) : Instr.sameBits 10000 (a3c ka n) (a3c ka n) = true := by
 cases ka with
 | none => simp [a3c, Instr.sameBits]
 | some m =>
  simp only [a3c, Instr.sameBits, BEq.rfl, Bool.true_and, List.all_eq_true]
  rintro ⟨x, y⟩ hxy
  have hh : x = y /\ x ∈ n.map (Value.int .i64) := by
   obtain ⟨i, hi⟩ := List.mem_iff_getElem?.1 hxy
   rw [List.getElem?_zip_eq_some] at hi
   have := hi.1.symm.trans hi.2
   exact ⟨by simpa using this, List.mem_of_getElem? hi.1⟩
  obtain ⟨rfl, hm⟩ := hh
  obtain ⟨a, _, rfl⟩ := List.mem_map.1 hm
  simp [Instr.sameBits]
theorem a8w {T : Tab} (hT : a2n P T) {t kt et : TypeId} (hum : P.underlying t = some (.map kt et)) {ka : Option Nat} (hka : c26 T kt = some ka) (hf : ∀ b, f <= b -> b < f' -> ι b = none /\ bs b = .gone)
  {b : Nat} (hb : BR ι w b (bs b)) (hlt : ∀ l, ι b = some l -> l.g < w.heap.size) {ks : List (List Int)} {F : List Int -> AV} (hbb : (bs b).asMap = some (ka, ks, F)) {vk v : AV} {n : List Int} (hn : keyOf ka vk = some n)
  {c k u : Value} (hc : rel ι (.map b) c) (hk : rel ι vk k) (hu : rel ι v u) :
  Post ι bs f f' w ((do Instr.mapUpdate t c k u; pure .skip : Sem Next).run P w) .dead [(b, .map ka (addKey ks n) (b1x F n v))] := by
 obtain ⟨rfl, hK⟩ := b6x hT hka hk hn w
 have hlen := hK.len
 obtain ⟨l, es, clock, h1, h2, h3, hst4⟩ := a60 hbb hb
 simp only [rel] at hc
 obtain ⟨l', h1', rfl⟩ := hc
 rw [h1] at h1'; cases h1'
 have hg := MapKept.run_getObj_map (P := P) h2
 have hck := hK.check false
 have hst : ∀ o, (setObj l.g o).run P w = .ok () { w with heap := w.heap.setIfInBounds l.g o } := fun o => MapKept.run_setObj_map o h2
 have hbf : b < f \/ f' <= b := by
  rcases Nat.lt_or_ge b f with h | h
  ·exact .inl h
  ·rcases Nat.lt_or_ge b f' with h' | h'
   ·have := (hf b h h').1; rw [this] at h1; cases h1
   ·exact .inr h'
 have hbrw : (bs b).rw = true := a7o hbb
 have hsl : ∀ b, f <= b -> b < f' -> ι b = none := fun b h1 h2 => (hf b h1 h2).1
 have fin : ∀ (es' : Array MapEntry) (clock' : Nat), MapR ι ka (addKey ks n) (b1x F n v) es'.toList -> MapKept.Stamped es' clock' ->
   ((do Instr.mapUpdate t (.map (some l.g)) (a3c ka n) u; pure .skip : Sem Next).run P w) = .ok .skip { w with heap := w.heap.setIfInBounds l.g (.map es' clock') } ->
   Post ι bs f f' w ((do Instr.mapUpdate t (.map (some l.g)) (a3c ka n) u; pure .skip : Sem Next).run P w) .dead [(b, .map ka (addKey ks n) (b1x F n v))] := by
  intro es' clock' hr hst5 hrun
  have hset := MapKept.heap_set (o' := .map es' clock') h2
  refine ⟨undef, _, ι, .inr ⟨hrun, rfl⟩, by simp [rel], ?_⟩
  exact {
   ext := fun _ _ => rfl
   br := by
    rintro b' ⟨k', hk'⟩
    simp only [List.mem_singleton, Prod.mk.injEq] at hk'
    obtain ⟨rfl, rfl⟩ := hk'
    rw [a0p]
    exact ⟨l, es', clock', h1, hset.1, hr, hst5⟩
   os := rfl
   tape := rfl
   output := rfl
   size := by simp
   keep := fun g _ hk => hset.2 g (fun e => hk b _ l (List.mem_singleton.2 rfl) hbrw h1 e.symm)
   lt := fun b' l' q1 q2 q3 => by rw [hsl b' q1 q2] at q3; cases q3
   fresh := fun b' l' q1 q2 _ q3 => by rw [hsl b' q1 q2] at q3; cases q3
   one := fun b' b2 l' l2 q1 q2 _ _ _ _ _ q3 => by rw [hsl b' q1 q2] at q3; cases q3
   rwn := by
    intro b' k' hk' _
    simp only [List.mem_singleton, Prod.mk.injEq] at hk'
    rw [hk'.2]; rfl
   upr := by
    intro b' k' hk'
    simp only [List.mem_singleton, Prod.mk.injEq] at hk'
    obtain ⟨rfl, rfl⟩ := hk'
    exact .inr hbrw
   pl := by
    intro b' k' hk'
    simp only [List.mem_singleton, Prod.mk.injEq] at hk'
    obtain ⟨rfl, rfl⟩ := hk'
    exact ⟨rfl, .inr (a4s hbb)⟩ }
 rcases hK.find ι ks F es.toList h3 with ⟨hc, hfk⟩ | ⟨j, e, hkj, hej, hc, hfk, hek⟩
 ·skip
  have hnm : n ∉ ks := by
   intro hm
   have : ks.contains n = true := by simpa using hm
   rw [hc] at this; cases this
  refine fin (es.push { key := a3c ka n, val := u, born := clock }) (clock + 1) ?_ (MapKept.stamped_push hst4 fun x hx e => ?_) ?_
  rotate_left
  ·obtain ⟨i, hi⟩ := List.mem_iff_getElem?.1 hx
   have hi' : (es.toList.map (·.key))[i]? = some x.key := by rw [List.getElem?_map, hi]; rfl
   rw [h3.keys, List.getElem?_map] at hi'
   cases hk : ks[i]? with
   | none => rw [hk] at hi'; cases hi'
   | some m =>
    rw [hk] at hi'
    simp only [Option.map_some, Option.some.injEq] at hi'
    have hm := List.mem_of_getElem? hk
    have := a9g (h3.len m hm) hlen (hi'.trans e)
    subst this
    exact hnm hm
  rotate_left
  ·have ha : addKey ks n = ks ++ [n] := by simp only [addKey, hc, cond_false]
   rw [ha]
   refine ⟨by simp [h3.keys], ?_, ?_, ?_⟩
   ·intro k hk
    rcases List.mem_append.1 hk with hk | hk
    ·exact h3.len k hk
    ·simp only [List.mem_singleton] at hk; subst hk; exact hlen
   ·rw [List.nodup_append]
    exact ⟨h3.nodup, by simp, by rintro a hin b hb rfl; simp only [List.mem_singleton] at hb; subst hb; exact hnm hin⟩
   ·have hsz : ks.length = es.toList.length := by have := congrArg List.length h3.keys; simpa using this.symm
    intro i k e' hi he
    simp only [Array.toList_push] at he
    rcases Nat.lt_or_ge i ks.length with hlt | hge
    ·rw [List.getElem?_append_left hlt] at hi
     rw [List.getElem?_append_left (by omega)] at he
     have hne : (k == n) = false := by
      rw [beq_eq_false_iff_ne]; rintro rfl; exact hnm (List.mem_of_getElem? hi)
     simp only [b1x, hne, cond_false]
     exact h3.vals i k e' hi he
    ·rw [List.getElem?_append_right hge] at hi
     rw [List.getElem?_append_right (by omega)] at he
     have : i - ks.length = 0 := by
      rcases Nat.eq_zero_or_pos (i - ks.length) with h | h
      ·exact h
      ·rw [List.getElem?_eq_none (by simp; omega)] at hi; cases hi
     rw [this] at hi
     rw [show i - es.toList.length = 0 from by omega] at he
     simp only [List.getElem?_cons_zero, Option.some.injEq] at hi he
     subst hi; subst he
     simpa [b1x] using hu
  ·simp [Instr.mapUpdate, run_underlying hum, hg, hck, hfk, hst, Result.andThen]
 ·skip
  have ha : addKey ks n = ks := by simp only [addKey, hc, cond_true]
  have hkeep : Instr.keyThatStays (((es[j]?).map (·.key)).getD (a3c ka n)) (a3c ka n) = (pure (a3c ka n) : Sem Value) := by
   have : es[j]? = some e := by rw [<- Array.getElem?_toList]; exact hej
   simp only [this, Option.map_some, Option.getD_some, hek, Instr.keyThatStays, b3h, if_true]
  refine fin (es.modify j fun e => { e with key := a3c ka n, val := u }) clock ?_ (MapKept.stamped_modify hst4 j _ (fun _ _ => rfl) fun e' _ he' => ?_) ?_
  rotate_left
  ·have : es.toList[j]? = some e' := by rw [Array.getElem?_toList]; exact he'
   rw [hej] at this; cases this; exact hek.symm
  rotate_left
  ·rw [ha]
   have hget : ∀ i, (es.modify j fun e => { e with key := a3c ka n, val := u }).toList[i]? = if j = i then (es.toList[i]?).map (fun e => { e with key := a3c ka n, val := u }) else es.toList[i]? := by
    intro i
    rw [Array.toList_modify, List.getElem?_modify]
    by_cases h : j = i
    ·simp [h]
    ·simp [h]
   refine ⟨?_, h3.len, h3.nodup, ?_⟩
   ·rw [<- h3.keys]
    apply List.ext_getElem?
    intro i
    rw [List.getElem?_map, List.getElem?_map, hget]
    by_cases h : j = i
    ·subst h; simp [hej, hek]
    ·simp [h]
   ·intro i k e' hi he
    rw [hget] at he
    by_cases h : j = i
    ·subst h
     rw [hkj] at hi
     simp only [Option.some.injEq] at hi
     subst hi
     simp only [if_true, hej, Option.map_some, Option.some.injEq] at he
     subst he
     simpa [b1x] using hu
    ·simp only [if_neg h] at he
     have hne : (k == n) = false := by
      rw [beq_eq_false_iff_ne]
      rintro rfl
      obtain ⟨q1, e1⟩ := List.getElem?_eq_some_iff.1 hi
      obtain ⟨q2, e2⟩ := List.getElem?_eq_some_iff.1 hkj
      have hp := List.pairwise_iff_getElem.1 h3.nodup
      rcases Nat.lt_trichotomy j i with hlt' | he' | hlt'
      ·exact hp j i q2 q1 hlt' (e2.trans e1.symm)
      ·exact h he'
      ·exact hp i j q1 q2 hlt' (e1.trans e2.symm)
     simp only [b1x, hne, cond_false]
     exact h3.vals i k e' hi he
  ·simp [Instr.mapUpdate, run_underlying hum, hg, hck, hfk, hkeep, hst, Result.andThen]
theorem Post.also {r : Result Next} {v : AV} {up : List (Nat × Blk)} (h : Post ι bs f f' w r v up) {b : Nat} {k' : Blk} (hb : b < f \/ f' <= b) (hrw : (bs b).rw = true) (hk : k'.rw = true /\ k'.plain = true /\ (bs b).plain = true)
  (hf : ∀ b, f <= b -> b < f' -> ι b = none /\ bs b = .gone) (hup : ∀ b1 k1, (b1, k1) ∈ up -> f <= b1 /\ b1 < f')
  (hlt : ∀ l, ι b = some l -> l.g < w.heap.size)
  (hbr : ∀ ι' w', Ext ι ι' -> (∀ l, ι b = some l -> w'.heap[l.g]? = w.heap[l.g]?) -> BR ι' w' b k') : Post ι bs f f' w r v ((b, k') :: up) := by
 obtain ⟨c, w', ι', h1, h2, h3⟩ := h
 have hext : Ext ι ι' := fun b1 l1 hl1 => by
  by_cases hb1 : b1 < f \/ f' <= b1
  ·rw [h3.ext b1 hb1]; exact hl1
  ·have := (hf b1 (by omega) (by omega)).1; rw [this] at hl1; cases hl1
 have hne : ∀ b1, f <= b1 -> b1 < f' -> b1 ≠ b := fun b1 q1 q2 e => by omega
 have hnk : k'.live = true := a1p hk.1
 have hpl : ∀ b1 k1, (b1, k1) ∈ (b, k') :: up -> k1.plain = true /\ ((f <= b1 /\ b1 < f') \/ (bs b1).plain = true) := by
  intro b1 k1 hm
  simp only [List.mem_cons, Prod.mk.injEq] at hm
  rcases hm with hm | hm
  ·exact ⟨by rw [hm.2]; exact hk.2.1, .inr (by rw [hm.1]; exact hk.2.2)⟩
  ·exact h3.pl b1 k1 hm
 refine ⟨c, w', ι', h1, h2, { h3 with br := ?_, keep := ?_, fresh := ?_, one := ?_, rwn := ?_, upr := ?_, pl := hpl }⟩
 ·rintro b1 ⟨k1, hk1⟩
  by_cases e : b1 = b
  ·subst e
   rw [a0p]
   refine hbr ι' w' hext fun l hl => h3.keep l.g (hlt l hl) fun b2 k2 l2 hm hr2 _ => ?_
   obtain ⟨q1, q2⟩ := hup b2 k2 hm
   rw [(hf b2 q1 q2).2] at hr2; cases hr2
  ·rw [a0w _ _ _ _ e]
   simp only [List.mem_cons, Prod.mk.injEq] at hk1
   rcases hk1 with hk1 | hk1
   ·exact absurd hk1.1 e
   ·exact h3.br b1 ⟨k1, hk1⟩
 ·intro g hg hk1
  exact h3.keep g hg fun b1 k1 l1 hm => hk1 b1 k1 l1 (List.mem_cons_of_mem _ hm)
 ·intro b1 l1 q1 q2 q3 q4
  rw [a0w _ _ _ _ (hne b1 q1 q2)] at q3
  rcases h3.fresh b1 l1 q1 q2 q3 q4 with hh | ⟨b0, l0, hm, _, q5, _⟩
  ·exact .inl hh
  ·obtain ⟨p1, p2⟩ := hup b0 _ hm
   rw [(hf b0 p1 p2).2] at q5; cases q5
 ·intro b1 b2 l1 l2 q1 q2 q3 q4 hn q5 q6
  rw [a0w _ _ _ _ (hne b1 q1 q2)] at q5
  rw [a0w _ _ _ _ (hne b2 q3 q4)] at q6
  exact h3.one b1 b2 l1 l2 q1 q2 q3 q4 hn q5 q6
 ·intro b1 k1 hm hl
  simp only [List.mem_cons, Prod.mk.injEq] at hm
  rcases hm with hm | hm
  ·rw [hm.2]; exact hk.1
  ·exact h3.rwn b1 k1 hm hl
 ·intro b1 k1 hm
  simp only [List.mem_cons, Prod.mk.injEq] at hm
  rcases hm with hm | hm
  ·right; rw [hm.1]; exact hrw
  ·exact h3.upr b1 k1 hm
theorem Post.setb {b : Nat} {l : Loc} (hl : ι b = some l) (hlt : l.g < w.heap.size) (hrw : (bs b).rw = true) {k' : Blk} (hk : k'.rw = true /\ k'.plain = true /\ (bs b).plain = true) (hf : ∀ b, f <= b -> b < f' -> ι b = none /\ bs b = .gone) {w' : World}
  (h1 : w'.os = w.os) (h2 : w'.tape = w.tape) (h3 : w'.output = w.output) (h4 : w.heap.size <= w'.heap.size) (h5 : ∀ g, g ≠ l.g -> w'.heap[g]? = w.heap[g]?) (hbr : BR ι w' b k') {r : Result Next} {v : AV} {c : Value}
  (hr : r = .ok (.value c) w' \/ (r = .ok .skip w' /\ c = undef)) (hv : rel ι v c) : Post ι bs f f' w r v [(b, k')] := by
 have hsl : ∀ b, f <= b -> b < f' -> ι b = none := fun b h1 h2 => (hf b h1 h2).1
 have hbf : b < f \/ f' <= b := by
  rcases Nat.lt_or_ge b f with h | h
  ·exact .inl h
  ·rcases Nat.lt_or_ge b f' with h' | h'
   ·have := (hf b h h').1; rw [this] at hl; cases hl
   ·exact .inr h'
 refine ⟨c, w', ι, hr, hv, ?_⟩
 exact {
  ext := fun _ _ => rfl
  br := by
   rintro b' ⟨k1, hk1⟩
   simp only [List.mem_singleton, Prod.mk.injEq] at hk1
   obtain ⟨rfl, rfl⟩ := hk1
   rw [a0p]
   exact hbr
  os := h1
  tape := h2
  output := h3
  size := h4
  keep := fun g _ hk => h5 g (fun e => hk b _ l (List.mem_singleton.2 rfl) hrw hl e.symm)
  lt := fun b' l' q1 q2 q3 => by rw [hsl b' q1 q2] at q3; cases q3
  fresh := fun b' l' q1 q2 _ q3 => by rw [hsl b' q1 q2] at q3; cases q3
  one := fun b' b2 l' l2 q1 q2 _ _ _ _ _ q3 => by rw [hsl b' q1 q2] at q3; cases q3
  rwn := by
   intro b' k1 hk1 _
   simp only [List.mem_singleton, Prod.mk.injEq] at hk1
   rw [hk1.2]; exact hk.1
  upr := by
   intro b' k1 hk1
   simp only [List.mem_singleton, Prod.mk.injEq] at hk1
   obtain ⟨rfl, rfl⟩ := hk1
   exact .inr hrw
  pl := by
   intro b' k1 hk1
   simp only [List.mem_singleton, Prod.mk.injEq] at hk1
   obtain ⟨rfl, rfl⟩ := hk1
   exact ⟨hk.2.1, .inr hk.2.2⟩ }
theorem b37 (ι : Lay) (ka : Option Nat) (k : List Int) : rel ι (b5o ka k) (a3c ka k) := by
 cases ka with
 | none => simp [b5o, a3c, rel]
 | some m =>
  simp only [b5o, a3c, rel]
  refine ⟨k.map (Value.int .i64), rfl, ?_, ?_⟩
  ·have := a4b ι (k.map (Value.int .i64))
   rw [List.map_map] at this
   exact this
  ·intro u hu
   obtain ⟨n, _, rfl⟩ := List.mem_map.1 hu
   rfl
theorem c0r {T : Tab} (hT : a2n P T) {t kt et : TypeId} (hum : P.underlying t = some (.map kt et)) {ka : Option Nat} (hka : c26 T kt = some ka) (hf : ∀ b, f <= b -> b < f' -> ι b = none /\ bs b = .gone)
  {b : Nat} (hb : BR ι w b (bs b)) (hlt : ∀ l, ι b = some l -> l.g < w.heap.size) {ks : List (List Int)} {F : List Int -> AV} (hbb : (bs b).asMap = some (ka, ks, F)) {vk : AV} {n : List Int} (hn : keyOf ka vk = some n)
  {c k : Value} (hc : rel ι (.map b) c) (hk : rel ι vk k) (tys : List TypeId) (ty : TypeId) :
  Post ι bs f f' w ((do pure (.value (<- Builtin.delete_ (t :: tys).toArray ty #[c, k])) : Sem Next).run P w) (.tup []) [(b, .map ka (ks.erase n) F)] := by
 obtain ⟨rfl, hK⟩ := b6x hT hka hk hn w
 have hlen := hK.len
 obtain ⟨l, es, clock, h1, h2, h3, hst4⟩ := a60 hbb hb
 simp only [rel] at hc
 obtain ⟨l', h1', rfl⟩ := hc
 rw [h1] at h1'; cases h1'
 have hg := MapKept.run_getObj_map (P := P) h2
 have hck := hK.check es.isEmpty
 have hst : ∀ o, (setObj l.g o).run P w = .ok () { w with heap := w.heap.setIfInBounds l.g o } := fun o => MapKept.run_setObj_map o h2
 have fin : ∀ es' : Array MapEntry, MapR ι ka (ks.erase n) F es'.toList -> MapKept.Stamped es' clock ->
   ((do pure (.value (<- Builtin.delete_ (t :: tys).toArray ty #[.map (some l.g), a3c ka n])) : Sem Next).run P w) = .ok (.value (.tuple #[])) { w with heap := w.heap.setIfInBounds l.g (.map es' clock) } ->
   Post ι bs f f' w ((do pure (.value (<- Builtin.delete_ (t :: tys).toArray ty #[.map (some l.g), a3c ka n])) : Sem Next).run P w) (.tup []) [(b, .map ka (ks.erase n) F)] := by
  intro es' hr hst5 hrun
  have hset := MapKept.heap_set (o' := .map es' clock) h2
  exact Post.setb (w' := { w with heap := w.heap.setIfInBounds l.g (.map es' clock) }) (k' := .map ka (ks.erase n) F) h1 (hlt l h1) (a7o hbb) ⟨rfl, rfl, a4s hbb⟩ hf rfl rfl rfl (by simp) hset.2 ⟨l, es', clock, h1, hset.1, hr, hst5⟩ (.inl hrun) (by simp [rel, relL])
 rcases hK.find ι ks F es.toList h3 with ⟨hc, hfk⟩ | ⟨j, e, hkj, hej, hc, hfk, hek⟩
 ·skip
  have hnm : n ∉ ks := by
   intro hm
   have : ks.contains n = true := by simpa using hm
   rw [hc] at this; cases this
  refine fin es ?_ hst4 ?_
  ·rw [List.erase_of_not_mem hnm]; exact h3
  ·simp [Builtin.delete_, run_underlying hum, hg, hck, hfk, hst, Result.andThen]
 ·skip
  have hjl : j < es.size := by
   have := (List.getElem?_eq_some_iff.1 hej).1
   simpa using this
  have htl : (es.eraseIdxIfInBounds j).toList = es.toList.eraseIdx j := by
   simp [Array.eraseIdxIfInBounds, hjl]
  have hke : ks.erase n = ks.eraseIdx j := by
   obtain ⟨q1, e1⟩ := List.getElem?_eq_some_iff.1 hkj
   rw [<- e1]
   rw [List.erase_eq_eraseIdx_of_idxOf rfl]
   rw [h3.nodup.idxOf_getElem]
  refine fin (es.eraseIdxIfInBounds j) ?_ (MapKept.stamped_erase hst4 j) ?_
  ·rw [htl, hke]
   refine ⟨?_, fun k hk => h3.len k (List.mem_of_mem_eraseIdx hk), h3.nodup.sublist (List.eraseIdx_sublist _ _), fun i k e' hi he => ?_⟩
   ·have hmm : ∀ {α β : Type} (g : α -> β) (l : List α) (j : Nat), (l.eraseIdx j).map g = (l.map g).eraseIdx j := by
     intro α β g l
     induction l with
     | nil => simp
     | cons a r ih => intro j; cases j <;> simp [ih]
    rw [hmm, hmm, h3.keys]
   ·rw [List.getElem?_eraseIdx] at hi he
    split at hi
    ·rename_i h; rw [if_pos h] at he; exact h3.vals i k e' hi he
    ·rename_i h; rw [if_neg h] at he; exact h3.vals (i + 1) k e' hi he
  ·simp [Builtin.delete_, run_underlying hum, hg, hck, hfk, hst, Result.andThen]
theorem c0c {T : Tab} (hT : a2n P T) {ρ : Operand -> AV} {ca : Operand -> Value} (hρ : ∀ x, rel ι (ρ x) (ca x)) (hf : ∀ b, f <= b -> b < f' -> ι b = none /\ bs b = .gone) (hff : f < f') (hb : ∀ b, BR ι w b (bs b)) (hlt : ∀ b l, ι b = some l -> l.g < w.heap.size)
  {o : Oper} {b : Nat} {ka : Option Nat} {ks : List (List Int)} {c : List Int -> AV} (h : c5m T o.op ρ bs = some (b, ka, ks, c)) :
  ∃ es clock, Post ι bs f f' w ((execOp ca o).run P w) (.ptr f 1 0 0) [(b, .mapg ka ks c es clock), (f, .iter b ka es clock [] none)] := by
 unfold c5m at h
 split at h
 ·rename_i t x ho
  split at h
  ·rename_i kt et _ _ _ _ b0 hd hx
   split at h
   ·rename_i ka0 ks0 c0 hbb
    simp only [Option.some.injEq, Prod.mk.injEq] at h
    obtain ⟨rfl, rfl, rfl, rfl⟩ := h
    have hum := a9r (Tab.get_ok hT hd) rfl
    obtain ⟨l, es, clock, h1, h2, h3, h4⟩ := a60 hbb (hb b0)
    have hxx := hρ x
    rw [hx] at hxx
    simp only [rel] at hxx
    obtain ⟨l', h1', hxv⟩ := hxx
    rw [h1] at h1'; cases h1'
    have hg := MapKept.run_getObj_map (P := P) h2
    have hbf : b0 < f \/ f' <= b0 := by
     rcases Nat.lt_or_ge b0 f with h | h
     ·exact .inl h
     ·rcases Nat.lt_or_ge b0 f' with h' | h'
      ·have := (hf b0 h h').1; rw [this] at h1; cases h1
      ·exact .inr h'
    refine ⟨es, clock, Post.also (b8q hf hff (.mapIter (some l.g) clock #[] clock) 1 (.iter b0 ka0 es clock [] none) ⟨rfl, rfl⟩ ?_ (v := .ptr f 1 0 0) (c := .pointer (some ⟨w.heap.size, 0, none⟩)) ?_ ?_) hbf (a7o hbb) ⟨rfl, rfl, a4s hbb⟩ hf ?_ (fun l hl => hlt b0 l hl) ?_⟩
    ·intro ι' w' q1 q2 q3
     exact ⟨_, l, #[], ⟨q1, rfl⟩, q2 _ _ h1, q3, ⟨by simp, by simp, by simp⟩⟩
    ·intro ι' q1 q2
     simp only [rel]
     exact ⟨_, q1, by simp⟩
    ·simp [execOp, ho, Instr.range, hxv, run_underlying hum, hg, newObj, Sem.run, Result.andThen]
    ·intro b1 k1 hm
     simp only [List.mem_singleton, Prod.mk.injEq] at hm
     omega
    ·intro ι' w' q1 q2
     exact ⟨l, q1 _ _ h1, (q2 l h1).trans h2, ⟨h3.keys, h3.len, h3.nodup, fun i k e a1 a2 => a2p q1 _ _ (h3.vals i k e a1 a2)⟩, h4⟩
   ·cases h
  ·cases h
 ·cases h
theorem born_inj {es : Array MapEntry} {clock : Nat} (h : MapKept.Stamped es clock) {x y : MapEntry} (hx : x ∈ es.toList) (hy : y ∈ es.toList) (e : x.born = y.born) : x = y := by
 obtain ⟨i, hi⟩ := List.mem_iff_getElem?.1 hx
 obtain ⟨j, hj⟩ := List.mem_iff_getElem?.1 hy
 have h2 := h.2.1
 have : i = j := by
  obtain ⟨q1, p1⟩ := List.getElem?_eq_some_iff.1 hi
  obtain ⟨q2, p2⟩ := List.getElem?_eq_some_iff.1 hj
  have hp := List.pairwise_iff_getElem.1 h2
  rcases Nat.lt_trichotomy i j with hlt | he | hlt
  ·exact absurd (by rw [List.getElem_map, List.getElem_map, p1, p2, e]) (hp i j (by simpa using q1) (by simpa using q2) hlt)
  ·exact he
  ·exact absurd (by rw [List.getElem_map, List.getElem_map, p1, p2, e]) (hp j i (by simpa using q2) (by simpa using q1) hlt)
 subst this
 rw [hi] at hj; cases hj; rfl
theorem key_inj {es : Array MapEntry} {clock : Nat} (h : MapKept.Stamped es clock) {x y : MapEntry} (hx : x ∈ es.toList) (hy : y ∈ es.toList) (e : x.key = y.key) : x = y := by
 obtain ⟨i, hi⟩ := List.mem_iff_getElem?.1 hx
 obtain ⟨j, hj⟩ := List.mem_iff_getElem?.1 hy
 have h2 := h.2.2
 have : i = j := by
  obtain ⟨q1, p1⟩ := List.getElem?_eq_some_iff.1 hi
  obtain ⟨q2, p2⟩ := List.getElem?_eq_some_iff.1 hj
  have hp := List.pairwise_iff_getElem.1 h2
  rcases Nat.lt_trichotomy i j with hlt | he | hlt
  ·exact absurd (by rw [List.getElem_map, List.getElem_map, p1, p2, e]) (hp i j (by simpa using q1) (by simpa using q2) hlt)
  ·exact he
  ·exact absurd (by rw [List.getElem_map, List.getElem_map, p1, p2, e]) (hp j i (by simpa using q2) (by simpa using q1) hlt)
 subst this
 rw [hi] at hj; cases hj; rfl
theorem b3j {v : AV} {d : NxtD} (h : b51 v bs = some d) (hb : ∀ b, BR ι w b (bs b)) (e1 : d.es' = d.es) (e2 : d.clock' = d.clock) (e3 : d.ka' = d.ka) {c : Value} (hv : rel ι v c) :
  ∃ (l lm : Loc) (seen : Array Nat), ι d.b = some l /\ ι d.m = some lm /\ (c = .pointer (some ⟨l.g, 0, none⟩)) /\ w.heap[l.g]? = some (.mapIter (some lm.g) d.clock seen d.clock) /\ w.heap[lm.g]? = some (.map d.es d.clock) /\
   IterR d.ka d.es d.S d.last seen /\ MapR ι d.ka d.ks d.c d.es.toList /\ MapKept.Stamped d.es d.clock /\ (bs d.b).rw = true /\ l.o = 0 /\ (bs d.b).plain = true := by
 unfold b51 at h
 split at h
 ·rename_i b
  split at h
  ·rename_i m ka es clock S last hbi
   split at h
   ·rename_i ka' ks c' es' clock' hbm
    simp only [Option.some.injEq] at h
    subst h
    simp only at e1 e2 e3
    subst e1; subst e2; subst e3
    have q1 := hb b
    rw [hbi] at q1
    obtain ⟨l, lm, seen, ⟨q1, q0⟩, q2, q3, q4⟩ := q1
    have q5 := hb m
    rw [hbm] at q5
    obtain ⟨lm', q6, q7, q8, q9⟩ := q5
    rw [q2] at q6; cases q6
    simp only [rel] at hv
    obtain ⟨l', q10, rfl⟩ := hv
    rw [q1] at q10; cases q10
    exact ⟨l, lm, seen, q1, q2, by simp [q0], q3, q7, q4, q8, q9, by rw [hbi]; rfl, q0, by rw [hbi]; rfl⟩
   ·cases h
  ·cases h
 ·cases h
theorem b1u {ka : Option Nat} {ks : List (List Int)} {c : List Int -> AV} {es : List MapEntry} (h : MapR ι ka ks c es) {e : MapEntry} (he : e ∈ es) : ∃ k, k ∈ ks /\ e.key = a3c ka k /\ rel ι (c k) e.val /\ k.length = ka.getD 1 := by
 obtain ⟨j, hj⟩ := List.mem_iff_getElem?.1 he
 have h1 : (es.map (·.key))[j]? = some e.key := by rw [List.getElem?_map, hj]; rfl
 rw [h.keys, List.getElem?_map] at h1
 cases hk : ks[j]? with
 | none => rw [hk] at h1; cases h1
 | some m =>
  rw [hk] at h1
  simp only [Option.map_some, Option.some.injEq] at h1
  have hm := List.mem_of_getElem? hk
  exact ⟨m, hm, h1.symm, h.vals j m e hk hj, h.len m hm⟩
theorem c2f {ka : Option Nat} {ks : List (List Int)} {c : List Int -> AV} {es : List MapEntry} (h : MapR ι ka ks c es) {k : List Int} (hk : k ∈ ks) : ∃ e ∈ es, e.key = a3c ka k := by
 obtain ⟨j, hj⟩ := List.mem_iff_getElem?.1 hk
 have h1 : (ks.map (a3c ka))[j]? = some (a3c ka k) := by rw [List.getElem?_map, hj]; rfl
 rw [<- h.keys, List.getElem?_map] at h1
 cases he : es[j]? with
 | none => rw [he] at h1; cases h1
 | some e =>
  rw [he] at h1
  simp only [Option.map_some, Option.some.injEq] at h1
  exact ⟨e, List.mem_of_getElem? he, h1⟩
theorem b99 {ρ : Operand -> AV} {ca : Operand -> Value} (hρ : ∀ x, rel ι (ρ x) (ca x)) (hf : ∀ b, f <= b -> b < f' -> ι b = none /\ bs b = .gone) (hb : ∀ b, BR ι w b (bs b)) (hlt : ∀ b l, ι b = some l -> l.g < w.heap.size)
  {o : Oper} {d : NxtD} (h : c56 o.op ρ bs = some d) (e1 : d.es' = d.es) (e2 : d.clock' = d.clock) (e3 : d.ka' = d.ka) :
  ((∀ k ∈ d.ks, k ∈ d.S) /\ Post ι bs f f' w ((execOp ca o).run P w) (.tup [.val (.bool false)]) []) \/
  ∃ k, k ∈ d.ks /\ k ∉ d.S /\ Post ι bs f f' w ((execOp ca o).run P w) (.tup [.val (.bool true), b5o d.ka k, d.c k]) [(d.b, .iter d.m d.ka d.es d.clock (d.S ++ [k]) (some k))] := by
 unfold c56 at h
 split at h
 ·rename_i x ho
  obtain ⟨l, lm, seen, q1, q2, q3, q4, q5, q6, q7, q8, q9, q10, q11⟩ := b3j h hb e1 e2 e3 (hρ x)
  rcases run_next_at (P := P) w o.type l.g lm.g d.clock d.clock seen d.es d.clock q4 q5 q8.1 (Nat.le_refl _) with ⟨h0, hrun⟩ | ⟨e, he, w1, hw1, hrun⟩
  ·refine .inl ⟨fun k hk => ?_, Post.pure hf (c := .tuple #[.bool false]) ?_ ?_⟩
   ·obtain ⟨e, he, hek⟩ := c2f q7 hk
    have hs : e.born ∈ seen.toList := by
     rcases Decidable.em (e.born ∈ seen.toList) with h | h
     ·exact h
     ·have : e ∈ (leftOf d.es seen).toList := by
       unfold leftOf
       simp only [Array.toList_filter, List.mem_filter]
       exact ⟨he, by simpa using h⟩
      have hz : (leftOf d.es seen) = #[] := Array.eq_empty_of_size_eq_zero h0
      rw [hz] at this; cases this
    obtain ⟨k', hk', e'⟩ := (q6.seen_iff e he).1 hs
    have hkl := q7.len k hk
    have hk'l : k' ∈ d.S := hk'
    rw [hek] at e'
    rw [a9g hkl (q6.len k' hk') e']; exact hk'
   ·simp [execOp, ho, q3, hrun, Result.andThen]
   ·simp [rel, relL]
  ·have he' : e ∈ d.es.toList /\ e.born ∉ seen.toList := by
    unfold leftOf at he
    simp only [Array.toList_filter, List.mem_filter] at he
    exact ⟨he.1, by simpa using he.2⟩
   obtain ⟨k, hk, hek, hev, hkl⟩ := b1u q7 he'.1
   refine .inr ⟨k, hk, fun hS => he'.2 ((q6.seen_iff e he'.1).2 ⟨k, hS, hek⟩), ?_⟩
   have hw : w1.os = w.os /\ w1.tape = w.tape /\ w1.output = w.output /\ w1.heap = w.heap := by
    rcases hw1 with rfl | rfl
    ·exact ⟨rfl, rfl, rfl, rfl⟩
    ·exact ⟨rfl, rfl, rfl, rfl⟩
   have hlg := hlt _ _ q1
   have hset : ∀ o' : Obj, (ChangeMaps.setBlock w1 l.g o').heap[l.g]? = some o' /\ ∀ g, g ≠ l.g -> (ChangeMaps.setBlock w1 l.g o').heap[g]? = w.heap[g]? := by
    intro o'
    unfold ChangeMaps.setBlock
    simp only [hw.2.2.2]
    exact MapKept.heap_set q4
   refine Post.setb q1 hlg q9 ⟨rfl, rfl, q11⟩ hf (w' := ChangeMaps.setBlock w1 l.g (.mapIter (some lm.g) d.clock (seen.push e.born) d.clock)) hw.1 hw.2.1 hw.2.2.1 ?_ (hset _).2 ?_ (.inl ?_) (c := .tuple #[.bool true, e.key, e.val]) ?_
   ·unfold ChangeMaps.setBlock; simp [hw.2.2.2]
   ·refine ⟨l, lm, seen.push e.born, ⟨q1, q10⟩, q2, (hset _).1, ?_, ?_, ?_⟩
    ·intro x hx
     simp only [Array.toList_push, List.mem_append, List.mem_singleton]
     constructor
     ·rintro (hh | hh)
      ·obtain ⟨k', hk', e'⟩ := (q6.seen_iff x hx).1 hh
       exact ⟨k', .inl hk', e'⟩
      ·have : x = e := born_inj q8 hx he'.1 hh
       subst this
       exact ⟨k, .inr rfl, hek⟩
     ·rintro ⟨k', hk' | rfl, e'⟩
      ·exact .inl ((q6.seen_iff x hx).2 ⟨k', hk', e'⟩)
      ·have : x = e := key_inj q8 hx he'.1 (e'.trans hek.symm)
       subst this
       exact .inr rfl
    ·intro k' hk'
     simp only [Option.some.injEq] at hk'
     subst hk'
     exact ⟨e, seen, he'.1, hek, rfl, hkl⟩
    ·intro k' hk'
     simp only [List.mem_append, List.mem_singleton] at hk'
     rcases hk' with hk' | rfl
     ·exact q6.len k' hk'
     ·exact hkl
   ·simp [execOp, ho, q3, hrun, Result.andThen]
   ·simp only [rel]
    refine ⟨[.bool true, e.key, e.val], rfl, a2s.2 ⟨by simp [rel], a2s.2 ⟨?_, a2s.2 ⟨hev, by simp [relL]⟩⟩⟩⟩
    rw [hek]; exact b37 ι d.ka k
 ·cases h
theorem b9d {ρ : Operand -> AV} {ca : Operand -> Value} (hρ : ∀ x, rel ι (ρ x) (ca x)) (hf : ∀ b, f <= b -> b < f' -> ι b = none /\ bs b = .gone) (hb : ∀ b, BR ι w b (bs b))
  {o : Oper} {d : NxtD} {k : List Int} (h : c44 o.op ρ bs = some (d, k)) (e1 : d.es' = d.es) (e2 : d.clock' = d.clock) (e3 : d.ka' = d.ka) :
  Post ι bs f f' w ((execOp ca o).run P w) (.tup [b5o d.ka k, d.c k]) [] := by
 unfold c44 at h
 split at h
 ·rename_i x ho
  split at h
  ·rename_i d0 hd
   split at h
   ·rename_i k0 hk0
    simp only [Option.some.injEq, Prod.mk.injEq] at h
    obtain ⟨rfl, rfl⟩ := h
    obtain ⟨l, lm, seen, q1, q2, q3, q4, q5, q6, q7, q8, q9, q10, q11⟩ := b3j hd hb e1 e2 e3 (hρ x)
    obtain ⟨e, seen', he, hek, rfl, hkl0⟩ := q6.last_is k0 hk0
    have hrun := run_entry_at (P := P) w l.g lm.g d0.clock seen' d0.es d0.clock e q4 q5 he q8.2.1
    obtain ⟨k', hk', hek', hev, hkl⟩ := b1u q7 he
    have : k' = k0 := a9g hkl hkl0 (hek'.symm.trans hek)
    subst this
    refine Post.pure hf (c := .tuple #[e.key, e.val]) ?_ ?_
    ·simp [execOp, ho, q3, hrun, Result.andThen]
    ·simp only [rel]
     refine ⟨[e.key, e.val], rfl, a2s.2 ⟨?_, a2s.2 ⟨hev, by simp [relL]⟩⟩⟩
     rw [hek]; exact b37 ι d0.ka k'
   ·cases h
  ·cases h
 ·cases h
end Go.Vx

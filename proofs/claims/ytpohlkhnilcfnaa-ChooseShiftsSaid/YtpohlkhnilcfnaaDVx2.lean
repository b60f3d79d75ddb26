/- Lemmas of a small executor for the model, and contracts of functions, used for the law that this claim proves. No condition. -/
import Derived.Test.YtpohlkhnilcfnaaDVx1
set_option linter.unusedSimpArgs false
set_option linter.unusedVariables false
/- What one operation does to abstract values: 'aop' gives what must hold, the value, and the blocks that are turned or made. -/
namespace Go.Vx

inductive TK where
  | other
  | bool
  | str
  | int (k : IntKind)
  | slice (e : TypeId)
  | struct (fs : List (Nat × Nat × Bool))
  | array (n : Nat) (e : TypeId)
  | map (k e : TypeId)
  | ptr (e : TypeId)

structure TyD where
  t : TypeId
  k : TK
  sz : Nat
  bytes : Nat
  zero : List Value
  eq : Option (List Bool)

def TK.agg : TK → Bool
  | .struct _ => true
  | .array _ _ => true
  | _ => false

def aggOf (P : Program) (t : TypeId) : Bool :=
  match P.underlying t with
  | some (.struct _) => true
  | some (.array _ _) => true
  | _ => false
def sizeOfP (P : Program) (t : TypeId) : Nat := match P.info? t with | some i => i.size | none => 0

def fieldsOK (P : Program) : TypeDesc → Bool
  | .struct fs => fs.toList.all fun f => (P.info? f.type).isSome && (P.underlying f.type).isSome
  | _ => true

/-- The kinds of a flat struct's fields: ints, bools. -/
def eqKinds (P : Program) : List Field → Nat → Option (List Bool)
  | [], _ => some []
  | f :: r, i => bif Nat.beq f.offset i && f.name != "_" then (match P.underlying f.type, eqKinds P r (i + 1) with
    | some (.int _), some l => some (true :: l)
    | some .bool, some l => some (false :: l)
    | _, _ => none) else none
def eqOf (P : Program) (t : TypeId) : Option (List Bool) :=
  match P.underlying t with
  | some (.struct fs) => bif !P.stoodInHeld t && !P.eqGuardType P.depth t then eqKinds P fs.toList 0 else none
  | _ => none

/-- A type's zero is of cells just if the type is a struct or an array. -/
def zeroOK : TypeDesc → Value → Bool
  | .struct _, .agg _ => true
  | .array _ _, .agg _ => true
  | .struct _, _ => false
  | .array _ _, _ => false
  | _, .agg _ => false
  | _, .tuple _ => false
  | _, _ => true

/-- What the program's tables say of a type. -/
def tkOf (P : Program) (t : TypeId) : Option TyD :=
  match P.info? t, P.underlying t with
  | some i, some d => match i.zero with
    | some z => bif !(fieldsOK P d && zeroOK d z) then none else some {
        t := t
        k := match d with
          | .bool => .bool
          | .string => .str
          | .int k => .int k
          | .slice e => .slice e
          | .struct fs => .struct (fs.toList.map fun f => (f.offset, sizeOfP P f.type, aggOf P f.type))
          | .array n e => .array n e
          | .map k e => .map k e
          | .pointer e => .ptr e
          | _ => .other
        sz := i.size
        bytes := i.bytes
        zero := z.cells.toList
        eq := eqOf P t }
    | none => none
  | _, _ => none

abbrev Tab := List TyD
def Tab.get (T : Tab) (t : TypeId) : Option TyD := List.find? (fun d => Nat.beq d.t t) T
def TabOK (P : Program) (T : Tab) : Prop := T.map (fun d => tkOf P d.t) = T.map some ∧ P.follows .mixedOrders = true

theorem Tab.get_ok {P : Program} {T : Tab} (h : TabOK P T) {t : TypeId} {d : TyD} (hd : T.get t = some d) : tkOf P t = some d := by
  have h1 := List.find?_some hd
  have h2 := List.mem_of_find?_eq_some hd
  have e : d.t = t := Nat.eq_of_beq_eq_true h1
  have := List.map_inj_left.1 h.1 d h2
  rw [← e]; exact this

def ofVal : Value → AV
  | .agg cs => .agg (cs.toList.map .val)
  | .tuple cs => .tup (cs.toList.map .val)
  | v => .val v

def AV.cells : AV → List AV
  | .agg cs => cs
  | v => [v]

/-- Is it the value of one cell, for sure? -/
def AV.one : AV → Bool
  | .val (.agg _) => false
  | .val (.tuple _) => false
  | .val _ => true
  | .sb _ => true
  | .ptr .. => true
  | .sl .. => true
  | .fn .. => true
  | .map _ => true
  | _ => false
def allOne : List AV → Bool
  | [] => true
  | v :: r => v.one && allOne r

/-- What must hold, one thing after the other. -/
def holdsL : List Prop → Prop
  | [] => True
  | p :: r => p ∧ holdsL r
/-- Where the reckoning stops: 'p' is to be proved. (By 'intro Q h; refine h ?_' the goal becomes 'p' itself.) -/
def stop (p : Prop) : Prop := ∀ Q : Prop, (p → Q) → Q
theorem stop_out {p : Prop} (h : stop p) : p := h p id
theorem stop_in {p : Prop} (h : p) : stop p := fun _ k => k h

/-- '.. and then q', without the trivial rest. -/
abbrev andL : List Prop → Prop → Prop
  | [], q => q
  | p :: r, q => stop (p ∧ andL r q)
theorem bif_some {α : Type} {b : Bool} {x y : α} (h : (bif b then some x else none) = some y) : b = true ∧ x = y := by
  cases b
  · cases h
  · exact ⟨rfl, by simpa using h⟩
theorem andL_iff : ∀ (l : List Prop) (q : Prop), andL l q → holdsL l ∧ q
  | [], _, h => ⟨trivial, h⟩
  | _ :: r, q, h => by
    obtain ⟨h1, h2⟩ := stop_out h
    exact ⟨⟨h1, (andL_iff r q h2).1⟩, (andL_iff r q h2).2⟩

def readCells (k : Blk) (e i j sz : Nat) : Option (List Prop × List AV) :=
  match k with
  | .gone => none
  | .var cs => bif Nat.beq i 0 && Nat.ble (j + sz) cs.length then some ([], (range' sz j).map fun m => cs.getD m .dead) else none
  | .arr _ _ e' n c => bif Nat.beq e' e && Nat.ble (j + sz) e then some ([i < n], (range' sz j).map fun m => c i m) else none
  | .map .. => none

def setCells (cs : List AV) (j : Nat) : List AV → List AV
  | [] => cs
  | v :: r => setCells (cs.set j v) (j + 1) r

def writeCells (k : Blk) (e i j : Nat) (vs : List AV) : Option (List Prop × Blk) :=
  match k with
  | .gone => none
  | .var cs => bif Nat.beq i 0 && Nat.ble (j + vs.length) cs.length then some ([], .var (setCells cs j vs)) else none
  | .arr rw t e' n c => bif Nat.beq e' e && rw && Nat.ble (j + vs.length) e then
      some ([i < n], .arr rw t e' n fun i' j' => bif Nat.beq i' i && (Nat.ble j j' && Nat.blt j' (j + vs.length)) then vs.getD (j' - j) .dead else c i' j')
    else none
  | .map .. => none

def kEq : IntKind → IntKind → Bool
  | .i8, .i8 => true | .i16, .i16 => true | .i32, .i32 => true | .i64, .i64 => true
  | .u8, .u8 => true | .u16, .u16 => true | .u32, .u32 => true | .u64, .u64 => true
  | _, _ => false
theorem kEq_eq {a b : IntKind} (h : kEq a b = true) : a = b := by cases a <;> cases b <;> first | rfl | cases h

def iBin (op : BinOp) (k : IntKind) (a b : Int) : Option (List Prop × AV) :=
  match op with
  | .add => some ([], .val (.int k (k.wrap (a + b))))
  | .sub => some ([], .val (.int k (k.wrap (a - b))))
  | .mul => some ([], .val (.int k (k.wrap (a * b))))
  | .quo => some ([b ≠ 0], .val (.int k (k.wrap (a.tdiv b))))
  | .rem => some ([b ≠ 0], .val (.int k (a.tmod b)))
  | .eql => some ([], .sb (a == b))
  | .neq => some ([], .sb (a != b))
  | .lss => some ([], .sb (a < b))
  | .leq => some ([], .sb (a ≤ b))
  | .gtr => some ([], .sb (a > b))
  | .geq => some ([], .sb (a ≥ b))
  | _ => none

def bBin (op : BinOp) (a b : Bool) : Option (List Prop × AV) :=
  match op with
  | .eql => some ([], .sb (a == b))
  | .neq => some ([], .sb (!(a == b)))
  | _ => none

def aBin (op : BinOp) (x y : AV) : Option (List Prop × AV) :=
  match x, y with
  | .val (.int k a), .val (.int k' b) => bif kEq k k' then iBin op k a b else none
  | _, _ => none

def toB : AV → Option Bool
  | .sb b => some b
  | .val (.bool b) => some b
  | _ => none

def eq1 (k : Bool) (x y : AV) : Option Bool :=
  match k with
  | true => match x, y with
    | .val (.int k a), .val (.int k' b) => bif kEq k k' then some (a == b) else none
    | _, _ => none
  | false => match toB x, toB y with
    | some a, some b => some (a == b)
    | _, _ => none
def eqCells : List Bool → List AV → List AV → Option Bool
  | [], [], [] => some true
  | k :: ks, x :: xs, y :: ys => match eq1 k x y, eqCells ks xs ys with
    | some a, some b => some (a && b)
    | _, _ => none
  | _, _, _ => none
/-- == of structs, and of a pointer and nil. -/
def sEq (x y : AV) (d : Option TyD) : Option Bool :=
  match x, y, d with
  | .agg xs, .agg ys, some { eq := some ks, .. } => eqCells ks xs ys
  | .ptr .., .val (.pointer none), some { k := .ptr _, .. } => some false
  | .val (.pointer none), .val (.pointer none), some { k := .ptr _, .. } => some true
  | _, _, _ => none
def sBin (op : BinOp) (b : Bool) : Option (List Prop × AV) :=
  match op with
  | .eql => some ([], .sb b)
  | .neq => some ([], .sb (!b))
  | _ => none

def aUn (op : UnOp) (x : AV) : Option (List Prop × AV) :=
  match op, x with
  | .not, .val (.bool b) => some ([], .val (.bool (!b)))
  | .not, .sb b => some ([], .sb (!b))
  | .neg, .val (.int k n) => some ([], .val (.int k (k.wrap (0 - n))))
  | _, _ => none

def aIndex (e : Nat) (x : AV) (ix : AV) : Option (List Prop × AV) :=
  match ix with
  | .val (.int _ n) =>
    match x with
    | .sl b e' off len _ => bif Nat.beq e' e then some ([0 ≤ n, n < len], .ptr b e (off + n.toNat) 0) else none
    | _ => none
  | _ => none

def intArg : Option AV → Int → Option Int
  | none, d => some d
  | some (.val (.int _ n)), _ => some n
  | _, _ => none

def aSlice (e : Nat) (x : AV) (lo hi mx : Option AV) : Option (List Prop × AV) :=
  match x with
  | .sl b e' off len cap => bif Nat.beq e' e then
      match intArg lo 0, intArg hi len, mx with
      | some l, some h, none => some ([0 ≤ l, l ≤ h, h ≤ len], .sl b e (off + l.toNat) (h - l).toNat (cap.map (· - l.toNat)))
      | some l, some h, some (.val (.int _ m)) => bif hi.isSome then some ([0 ≤ l, l ≤ h, h ≤ m, m ≤ len], .sl b e (off + l.toNat) (h - l).toNat (some (m - l).toNat)) else none
      | _, _, _ => none
    else none
  | _ => none

def fillAV (place : Nat → Option (Nat × Nat)) (cells : List AV) : List (Nat × AV) → Option (List AV)
  | [] => some cells
  | (i, v) :: rest =>
    match place i with
    | none => none
    | some (off, size) => bif Nat.beq v.cells.length size && Nat.ble (off + v.cells.length) cells.length && allOne v.cells then fillAV place (setCells cells off v.cells) rest else none

def repCells (z : List Value) : Nat → List AV
  | 0 => []
  | n + 1 => z.map .val ++ repCells z n

/-- The elements that are appended: what must hold, how many, and their cells. -/
def srcOf (sz : Nat) (x : AV) (bs : Nat → Blk) : Option (List Prop × Nat × (Nat → Nat → AV)) :=
  match x with
  | .val (.slice none 0 0) => some ([], 0, fun _ _ => .dead)
  | .sl b e off n _ => match bs b with
    | .arr _ _ e' m c => bif Nat.beq e' sz && Nat.beq e sz then some ([off + n ≤ m], n, fun i j => c (off + i) j) else none
    | _ => none
  | _ => none

/-- The cells of a row behind an append. -/
def appF (len : Nat) (c0 c : Nat → Nat → AV) (i j : Nat) : AV := bif Nat.blt i len then c0 i j else c (i - len) j
theorem appF_lt {len i : Nat} (h : i < len) (c0 c : Nat → Nat → AV) (j : Nat) : appF len c0 c i j = c0 i j := by
  have : Nat.blt i len = true := Nat.ble_eq_true_of_le h
  simp [appF, this]
theorem appF_ge {len i : Nat} (h : len ≤ i) (c0 c : Nat → Nat → AV) (j : Nat) : appF len c0 c i j = c (i - len) j := by
  have : Nat.blt i len = false := by
    rw [Bool.eq_false_iff]; intro hh; have : i < len := Nat.le_of_ble_eq_true hh; omega
  simp [appF, this]

def aAppend (te : TyD) (s x : AV) (bs : Nat → Blk) (f : Nat) : Option (List Prop × AV × List (Nat × Blk)) :=
  match srcOf te.sz x bs with
  | none => none
  | some (p, n, c) => bif Nat.beq te.sz 0 || Nat.beq te.bytes 0 || !Nat.beq te.zero.length te.sz then none else
    match s with
    | .val (.slice none 0 0) => some ((n * te.bytes ≤ 140737488355328) :: p, .sl f te.sz 0 n none, [(f, .arr true te.t te.sz n c)])
    | .sl b e off len none => match bs b with
      | .arr true t e' m c0 => bif Nat.beq t te.t && Nat.beq e' te.sz && Nat.beq e te.sz && Nat.beq off 0 then
          some ((m = len) :: ((len + n) * te.bytes ≤ 140737488355328) :: p, .sl f te.sz 0 (len + n) none,
            [(b, .gone), (f, .arr true te.t te.sz (len + n) (appF len c0 c))])
        else none
      | _ => none
    | .sl b e off len (some cp) => match bs b with
      | .arr _ _ e' m c0 => bif Nat.beq e' te.sz && Nat.beq e te.sz then
          some ((off + len ≤ m) :: (cp < len + n ∨ cp = 0) :: ((len + n) * te.bytes ≤ 140737488355328) :: p, .sl f te.sz 0 (len + n) none,
            [(f, .arr true te.t te.sz (len + n) (appF len (fun i j => c0 (off + i) j) c))])
        else none
      | _ => none
    | _ => none

/-- The ints of a key. -/
def keyInts : List AV → Option (List Int)
  | [] => some []
  | .val (.int .i64 n) :: r => match keyInts r with
    | some l => some (n :: l)
    | none => none
  | _ :: _ => none
/-- What keys of a type are: one int, or some. -/
def kaOf (d : Option TyD) : Option (Option Nat) := match d with
  | some { k := .int .i64, .. } => some none
  | _ => none
def kaEq : Option Nat → Option Nat → Bool
  | none, none => true
  | some a, some b => Nat.beq a b
  | _, _ => false
theorem kaEq_eq {a b : Option Nat} (h : kaEq a b = true) : a = b := by
  cases a <;> cases b <;> first | rfl | cases h | (rw [Nat.eq_of_beq_eq_true h])
def keyOf (ka : Option Nat) (v : AV) : Option (List Int) := match ka, v with
  | none, .val (.int .i64 n) => some [n]
  | some m, .agg cs => match keyInts cs with
    | some l => bif Nat.beq l.length m then some l else none
    | none => none
  | _, _ => none
def addKey (ks : List (List Int)) (n : List Int) : List (List Int) := bif ks.contains n then ks else ks ++ [n]
def updK (c : List Int → AV) (n : List Int) (v : AV) : List Int → AV := fun k => bif k == n then v else c k
def zeroAV (d : TyD) : Option AV := bif d.k.agg then (bif allOne (d.zero.map .val) then some (.agg (d.zero.map .val)) else none) else match d.zero with
  | [z] => some (.val z)
  | _ => none
def okV (ok : Bool) (v : AV) (b : Bool) : AV := match ok with
  | true => .tup [v, .sb b]
  | false => v
/-- A look into a map: whether the key is there, the value if it is, the value if it is not. -/
def mapLk (T : Tab) (op : Op) (ρ : Operand → AV) (bs : Nat → Blk) : Option (Bool × AV × AV) := match op with
  | .lookup t x ix ok => match T.get t with
    | some { k := .map kt et, .. } => match kaOf (T.get kt), T.get et with
      | some ka', some de => match zeroAV de, keyOf ka' (ρ ix), ρ x with
        | some z, some n, .map b => match bs b with
          | .map ka ks c => bif kaEq ka ka' then some (ks.contains n, okV ok (c n) true, okV ok z false) else none
          | _ => none
        | some z, some _, .val (.map none) => some (false, okV ok z false, okV ok z false)
        | _, _, _ => none
      | _, _ => none
    | _ => none
  | _ => none

/-- One operation: what must hold, its value, the blocks. 'f': the first free block number. -/
def aop (T : Tab) (op : Op) (ρ : Operand → AV) (bs : Nat → Blk) (f : Nat) : Option (List Prop × AV × List (Nat × Blk)) :=
  match op with
  | .move x => some ([], ρ x, [])
  | .assign x => some ([], ρ x, [])
  | .pick c a b => match ρ c with
    | .val (.bool t) => some ([], (match t with | true => ρ a | false => ρ b), [])
    | .sb t => match ρ a, ρ b with
      | .sb x, .sb y => some ([], .sb (bif t then x else y), [])
      | .val (.int k x), .val (.int k' y) => bif kEq k k' then some ([], .val (.int k (bif t then x else y)), []) else none
      | _, _ => none
    | _ => none
  | .alloc t => match T.get t with
    | some d => bif allOne (d.zero.map .val) then some ([], .ptr f d.sz 0 0, [(f, .var (d.zero.map .val))]) else none
    | none => none
  | .box t x => match T.get t with
    | some d => bif allOne (ρ x).cells then some ([], .ptr f d.sz 0 0, [(f, .var (ρ x).cells)]) else none
    | none => none
  | .load t x => match T.get t, ρ x with
    | some d, .ptr b e i j => match readCells (bs b) e i j d.sz with
      | some (p, cs) => bif d.k.agg || Nat.beq d.sz 1 then some (p, mkAgg d.k.agg cs, []) else none
      | none => none
    | _, _ => none
  | .store t x v => match T.get t, ρ x with
    | some d, .ptr b e i j => match writeCells (bs b) e i j (ρ v).cells with
      | some (p, k) => bif Nat.beq (ρ v).cells.length d.sz && allOne (ρ v).cells then some (p, .dead, [(b, k)]) else none
      | none => none
    | _, _ => none
  | .nilCheck x => match ρ x with
    | .ptr b e i j => some ([], .ptr b e i j, [])
    | .fn (.func f) caps => some ([], .fn (.func f) caps, [])
    | _ => none
  | .binOp op t x y _ => match aBin op (ρ x) (ρ y) with
    | some (p, v) => some (p, v, [])
    | none => match toB (ρ x), toB (ρ y), T.get t with
      | some a, some b, some { k := .bool, .. } => match bBin op a b with
        | some (p, v) => some (p, v, [])
        | none => none
      | _, _, _ => match sEq (ρ x) (ρ y) (T.get t) with
        | some b => match sBin op b with
          | some (p, v) => some (p, v, [])
          | none => none
        | none => none
  | .unOp op _ x => match aUn op (ρ x) with
    | some (p, v) => some (p, v, [])
    | none => none
  | .convert src t x => match T.get src, T.get t, ρ x with
    | some _, some { k := .int k, .. }, .val (.int _ n) => some ([], .val (.int k (k.wrap n)), [])
    | _, _, _ => none
  | .fieldAddr t x i => match T.get t, ρ x with
    | some { k := .struct fs, .. }, .ptr b e i' j => match fs[i]? with
      | some (o, sz, _) => bif Nat.blt 0 sz then some ([], .ptr b e i' (j + o), []) else none
      | none => none
    | _, _ => none
  | .field t x i => match T.get t, ρ x with
    | some { k := .struct fs, .. }, .agg cs => match fs[i]? with
      | some (o, sz, ag) => bif Nat.ble (o + sz) cs.length && (ag || Nat.beq sz 1) then some ([], mkAgg ag ((range' sz o).map fun m => cs.getD m .dead), []) else none
      | none => none
    | _, _ => none
  | .indexAddr t x ix => match T.get t with
    | some { k := .slice te, .. } => match T.get te with
      | some de => match aIndex de.sz (ρ x) (ρ ix) with
        | some (p, v) => some (p, v, [])
        | none => none
      | none => none
    | _ => none
  | .slice t x lo hi mx => match T.get t with
    | some { k := .slice te, .. } => match T.get te with
      | some de => match aSlice de.sz (ρ x) (lo.map ρ) (hi.map ρ) (mx.map ρ) with
        | some (p, v) => some (p, v, [])
        | none => none
      | none => none
    | _ => none
  | .build t parts => match T.get t with
    | some { k := .struct fs, zero := z, .. } => match fillAV (fun i => (fs[i]?).map fun x => (x.1, x.2.1)) (z.map .val) (parts.toList.map fun x => (x.1, ρ x.2)) with
      | some cs => bif allOne (z.map .val) then some ([], .agg cs, []) else none
      | none => none
    | some { k := .array _ te, zero := z, .. } => match T.get te with
      | some de => match fillAV (fun i => some (i * de.sz, de.sz)) (z.map .val) (parts.toList.map fun x => (x.1, ρ x.2)) with
        | some cs => bif allOne (z.map .val) then some ([], .agg cs, []) else none
        | none => none
      | none => none
    | _ => none
  | .buildSlice t len parts => match T.get t with
    | some { k := .slice te, .. } => match T.get te with
      | some de => match fillAV (fun i => some (i * de.sz, de.sz)) (repCells de.zero len) (parts.toList.map fun x => (x.1, ρ x.2)) with
        | some cs => bif allOne (de.zero.map .val) && Nat.beq de.zero.length de.sz && Nat.blt 0 de.sz && Nat.ble (len * de.sz) 16777216 then some ([], .sl f de.sz 0 len (some len),
            [(f, .arr true te de.sz len fun i j => cs.getD (i * de.sz + j) .dead)]) else none
        | none => none
      | none => none
    | _ => none
  | .makeSlice t l c => match T.get t, ρ l, ρ c with
    | some { k := .slice te, .. }, .val (.int _ n), .val (.int _ m) => match T.get te with
      | some de => bif allOne (de.zero.map .val) && Nat.beq de.zero.length de.sz && Nat.blt 0 de.sz && Nat.blt 0 de.bytes then some ([0 ≤ n, n ≤ m, m * de.bytes ≤ 140737488355328], .sl f de.sz 0 n.toNat none,
          [(f, .arr true te de.sz n.toNat fun _ j => .val (de.zero.getD j undef))]) else none
      | none => none
    | _, _, _ => none
  | .extract x i => match ρ x with
    | .tup vs => match vs[i]? with
      | some v => some ([], v, [])
      | none => none
    | _ => none
  | .makeMap t r => match r, T.get t with
    | none, some { k := .map kt _, .. } => match kaOf (T.get kt) with
      | some ka => some ([], .map f, [(f, .map ka [] fun _ => .dead)])
      | none => none
    | _, _ => none
  | .mapUpdate t m k x => match T.get t, ρ m with
    | some { k := .map kt _, .. }, .map b => match bs b, kaOf (T.get kt) with
      | .map ka ks c, some ka' => match keyOf ka' (ρ k) with
        | some n => bif kaEq ka ka' then some ([], .dead, [(b, .map ka (addKey ks n) (updK c n (ρ x)))]) else none
        | none => none
      | _, _ => none
    | _, _ => none
  | .makeFunc fn first caps => match first.toList with
    | [] => some ([], .fn fn (caps.toList.map ρ), [])
    | _ => none
  | .call c => match c.callee, c.args.toList, c.argTypes.toList with
    | .builtin .len, [x], [t] => match T.get t, ρ x with
      | some { k := .slice _, .. }, .sl _ _ _ len _ => some ([], .val (.int .i64 len), [])
      | some { k := .slice _, .. }, .val (.slice none 0 0) => some ([], .val (.int .i64 0), [])
      | some { k := .map _ _, .. }, .map b => match bs b with
        | .map _ ks _ => some ([], .val (.int .i64 ks.length), [])
        | _ => none
      | _, _ => none
    | .builtin .append, [s, x], [t, t'] => bif Nat.beq t t' then (match T.get t with
      | some { k := .slice te, .. } => match T.get te with
        | some de => aAppend de (ρ s) (ρ x) bs f
        | none => none
      | _ => none) else none
    | .builtin .max, [x, y], _ => match ρ x, ρ y with
      | .val (.int k a), .val (.int _ b) => some ([], .val (.int k (if b > a then b else a)), [])
      | _, _ => none
    | .builtin .min, [x, y], _ => match ρ x, ρ y with
      | .val (.int k a), .val (.int _ b) => some ([], .val (.int k (if b < a then b else a)), [])
      | _, _ => none
    | _, _, _ => none
  | _ => none

/-- A slice against nil: whether it is nil is not known, but a nil one has no elements. -/
def nilCmp (T : Tab) (op : Op) (ρ : Operand → AV) : Option (Bool × Nat) :=
  match op with
  | .binOp .eql t x y _ => match T.get t, ρ x, ρ y with
    | some { k := .slice _, .. }, .sl _ _ _ len _, .val (.slice none 0 0) => some (true, len)
    | some { k := .slice _, .. }, .val (.slice none 0 0), .val (.slice none 0 0) => some (true, 0)
    | _, _, _ => none
  | .binOp .neq t x y _ => match T.get t, ρ x, ρ y with
    | some { k := .slice _, .. }, .sl _ _ _ len _, .val (.slice none 0 0) => some (false, len)
    | some { k := .slice _, .. }, .val (.slice none 0 0), .val (.slice none 0 0) => some (false, 0)
    | _, _, _ => none
  | _ => none
def nilV (p nb : Bool) : AV := match p with | true => .sb nb | false => .sb (!nb)

/-- The first free block number behind an operation. -/
def bump (op : Op) (f : Nat) : Nat := match op with
  | .alloc _ => f + 1
  | .box .. => f + 1
  | .buildSlice .. => f + 1
  | .makeSlice .. => f + 1
  | .makeMap .. => f + 1
  | .call c => match c.callee with
    | .builtin .append => f + 1
    | _ => f
  | _ => f
theorem bump_le (op : Op) (f : Nat) : f ≤ bump op f := by
  unfold bump
  split <;> try omega
  split <;> omega

end Go.Vx

/- Lemmas of a small executor for the model, and contracts of functions, used for the law that this claim proves. No condition. -/
import Derived.Test.YtpohlkhnilcfnaaDVx8
set_option linter.unusedSimpArgs false
set_option linter.unusedVariables false
/- Code: the states, the calls, the conditions under which code does what is asked. -/
namespace Go.Vx

structure St where
  tm : Nat → AV
  bs : Nat → Blk
  f : Nat

/-- A constant. -/
def cv : Value → AV
  | .agg cs => bif cs.toList.all Value.oneCell' then .agg (cs.toList.map .val) else .dead
  | .tuple cs => .tup (cs.toList.map .val)
  | v => .val v

def St.ev (s : St) : Operand → AV
  | .tmp t => s.tm t
  | .const v => cv v
  | .func f => .fn (.func f) []
  | .global _ => .dead

def updT (tm : Nat → AV) (d : Nat) (v : AV) : Nat → AV := fun t => bif Nat.beq t d then v else tm t

/-- A frame by its slots, a store by its blocks. -/
def frL : List (Nat × AV) → Nat → AV
  | [], _ => .dead
  | (d, v) :: r, t => bif Nat.beq t d then v else frL r t
def blL : List Blk → Nat → Blk
  | [], _ => .gone
  | k :: _, 0 => k
  | _ :: r, b + 1 => blL r b
def argL : List AV → Nat → AV
  | [], _ => .dead
  | v :: _, 0 => v
  | _ :: r, b + 1 => argL r b

/-- Which block stands for which: 'none': a block that is empty and was never made. -/
abbrev Ix := List (Option Nat)
def Ix.at (xs : Ix) (b : Nat) : Option Nat := match xs[b]? with | some (some x) => some x | _ => none

mutual
/-- 'x' says no more than 'y', its blocks named by ρ. -/
def sub (ρ : Nat → Option Nat) : AV → AV → Prop
  | .dead, _ => True
  | .val v, y => y = .val v
  | .sb b, y => y = .sb b ∨ y = .val (.bool b)
  | .ptr b e i j, y => ∃ x, ρ b = some x ∧ y = .ptr x e i j
  | .sl b e off len cap, y => (∃ x, ρ b = some x ∧ y = .sl x e off len cap) ∨ (len = 0 ∧ y = .val (.slice none 0 0) ∧ (cap = none ∨ cap = some 0))
  | .fn f caps, y => ∃ cs, y = .fn f cs ∧ subL ρ caps cs
  | .agg vs, y => ∃ cs, y = .agg cs ∧ subL ρ vs cs
  | .tup vs, y => ∃ cs, y = .tup cs ∧ subL ρ vs cs
  | .map b, y => ∃ x, ρ b = some x ∧ y = .map x
def subL (ρ : Nat → Option Nat) : List AV → List AV → Prop
  | [], ys => ys = []
  | x :: r, ys => ∃ y r', ys = y :: r' ∧ sub ρ x y ∧ subL ρ r r'
end

/-- A number, brought into its form. -/
def forceB' : List Nat → Nat → (Nat → Prop) → Prop
  | [], n, K => K n
  | x :: r, n, K => match Nat.beq n x with
    | true => K x
    | false => forceB' r n K
theorem forceB'_iff : ∀ (l : List Nat) (n : Nat) (K : Nat → Prop), forceB' l n K ↔ K n
  | [], _, _ => Iff.rfl
  | x :: r, n, K => by
    simp only [forceB']
    cases h : Nat.beq n x with
    | true => rw [Nat.eq_of_beq_eq_true h]
    | false => exact forceB'_iff r n K
def forceN (n : Nat) (K : Nat → Prop) : Prop := forceB' [0, 1, 2, 3, 4, 5, 6, 7, 8, 9, 10, 11, 12, 13, 14, 15, 16, 17, 18, 19, 20, 21, 22, 23, 24, 25, 26, 27, 28, 29, 30, 31, 32, 33, 34, 35, 36, 37, 38, 39, 40, 41, 42, 43, 44, 45, 46, 47, 48, 49, 50, 51, 52, 53, 54, 55, 56, 57, 58, 59, 60, 61, 62, 63] n K
theorem forceN_iff (n : Nat) (K : Nat → Prop) : forceN n K ↔ K n := forceB'_iff _ n K

/-- The same, the value brought into its form first (so that whoever unfolds this term unfolds it once). -/
def forceL : List AV → (List AV → Prop) → Prop
  | [], K => K []
  | v :: r, K => forceL r fun r' => match v with
    | .dead => K (.dead :: r')
    | .val (.int k n) => K (.val (.int k n) :: r')
    | .val (.bool b) => K (.val (.bool b) :: r')
    | .val u => K (.val u :: r')
    | .sb b => K (.sb b :: r')
    | .ptr b e i j => K (.ptr b e i j :: r')
    | .sl b e off len cap => K (.sl b e off len cap :: r')
    | .fn f caps => K (.fn f caps :: r')
    | .agg vs => K (.agg vs :: r')
    | .tup vs => K (.tup vs :: r')
    | .map b => K (.map b :: r')
theorem forceL_iff : ∀ (l : List AV) (K : List AV → Prop), forceL l K ↔ K l
  | [], K => Iff.rfl
  | v :: r, K => by
    simp only [forceL]
    rw [forceL_iff r]
    cases v with
    | val u => cases u <;> rfl
    | _ => rfl
def forceV (v : AV) (K : AV → Prop) : Prop := match v with
  | .dead => K .dead
  | .val (.int k n) => K (.val (.int k n))
  | .val (.bool b) => K (.val (.bool b))
  | .val u => K (.val u)
  | .sb b => K (.sb b)
  | .ptr b e i j => K (.ptr b e i j)
  | .sl b e off len cap => K (.sl b e off len cap)
  | .fn f caps => K (.fn f caps)
  | .agg vs => forceL vs fun vs => K (.agg vs)
  | .tup vs => forceL vs fun vs => K (.tup vs)
  | .map b => K (.map b)
theorem forceV_iff (v : AV) (K : AV → Prop) : forceV v K ↔ K v := by
  cases v with
  | val u => cases u <;> rfl
  | agg vs => exact forceL_iff vs _
  | tup vs => exact forceL_iff vs _
  | _ => rfl
def forceU : List (Nat × Blk) → (List (Nat × Blk) → Prop) → Prop
  | [], K => K []
  | (b, k) :: r, K => forceU r fun r' => match k with
    | .gone => K ((b, .gone) :: r')
    | .var cs => forceL cs fun cs => K ((b, .var cs) :: r')
    | .arr rw t e n c => K ((b, .arr rw t e n c) :: r')
    | .map ka ks c => K ((b, .map ka ks c) :: r')
theorem forceU_iff : ∀ (l : List (Nat × Blk)) (K : List (Nat × Blk) → Prop), forceU l K ↔ K l
  | [], K => Iff.rfl
  | (b, k) :: r, K => by
    simp only [forceU]
    rw [forceU_iff r]
    cases k with
    | var cs => exact forceL_iff cs _
    | _ => rfl

def forceB (k : Blk) (K : Blk → Prop) : Prop := match k with
  | .gone => K .gone
  | .var cs => forceL cs fun cs => K (.var cs)
  | .arr rw t e n c => K (.arr rw t e n c)
  | .map ka ks c => K (.map ka ks c)
theorem forceB_iff (k : Blk) (K : Blk → Prop) : forceB k K ↔ K k := by
  cases k with
  | var cs => exact forceL_iff cs _
  | _ => rfl

def BSub (ρ : Nat → Option Nat) : Blk → Blk → Prop
  | .gone, _ => True
  | .var cs, k => ∃ cs', k = .var cs' ∧ subL ρ cs cs'
  | .arr rw t e n c, k => (∃ rw' t' n' c', (k = .arr rw' t' e n' c' ∧ n ≤ n') ∧ (rw = true → rw' = true ∧ t = t') ∧ ∀ i, i < n → ∀ j, j < e → sub ρ (c i j) (c' i j)) ∨
    (rw = false ∧ n = 1 ∧ ∃ cs', k = .var cs' ∧ ∀ j, j < e → ∃ v, cs'[j]? = some v ∧ sub ρ (c 0 j) v)
  | .map ka ks c, k => ∃ ks' c', k = .map ka ks' c' ∧ ks' = ks ∧ ∀ x ∈ ks, sub ρ (c x) (c' x)

def virtOK : Blk → Prop
  | .gone => True
  | .arr _ _ _ n _ => n = 0
  | .var _ => False
  | .map .. => False

/-- Each block of the list says no more than the block that stands for it. -/
def subB (ρ : Nat → Option Nat) (bs : Nat → Blk) : Ix → List Blk → Prop
  | [], [] => True
  | none :: xs, k :: ks => virtOK k ∧ subB ρ bs xs ks
  | some x :: xs, k :: ks => forceB (bs x) (fun k' => stop (BSub ρ k k')) ∧ subB ρ bs xs ks
  | _, _ => False

def notIn (x : Nat) : Ix → Bool
  | [] => true
  | none :: r => notIn x r
  | some y :: r => !Nat.beq x y && notIn x r
def Ix.nodup : Ix → Bool
  | [] => true
  | none :: r => Ix.nodup r
  | some x :: r => notIn x r && Ix.nodup r

mutual
def AV.ren (ρ : Nat → Nat) : AV → AV
  | .dead => .dead
  | .val v => .val v
  | .sb b => .sb b
  | .ptr b e i j => .ptr (ρ b) e i j
  | .sl b e off len cap => .sl (ρ b) e off len cap
  | .fn f caps => .fn f (renL ρ caps)
  | .agg vs => .agg (renL ρ vs)
  | .tup vs => .tup (renL ρ vs)
  | .map b => .map (ρ b)
def renL (ρ : Nat → Nat) : List AV → List AV
  | [] => []
  | v :: r => v.ren ρ :: renL ρ r
end
def Blk.ren (ρ : Nat → Nat) : Blk → Blk
  | .gone => .gone
  | .var cs => .var (renL ρ cs)
  | .arr rw t e n c => .arr rw t e n fun i j => (c i j).ren ρ
  | .map ka ks c => .map ka ks fun x => (c x).ren ρ

/-- The caller's name of a callee's block. -/
def rb (xs : Ix) (sl : Nat) (i : Nat) : Nat := match xs[i]? with
  | some (some x) => x
  | some none => 0
  | none => sl + (i - xs.length)

def ambOf (ι : Lay) (bs : Nat → Blk) (w : World) : Amb := ⟨w, fun g => ∃ b l, (bs b).rw = true ∧ ι b = some l ∧ l.g = g⟩

/-- What a call may be said to do: whatever fits 'args' and the lent blocks 'L': it returns, and 'R' holds of the value and the blocks (the lent ones first). -/
def Runs (P : Program) (g : FuncId) (args : List AV) (L : List Blk) (R : AV → List Blk → Prop) : Prop :=
  (∀ as w, (callFunc g as).run P w = .ok (.enter g as) w) ∧
  ∀ (w : World) (ι : Lay) (cs : List Value), WR (ambOf ι (blL L) w) ι (blL L) w → (∀ b, L.length ≤ b → ι b = none) → relL ι args cs →
    Calls P g cs.toArray w fun e w' => ∃ V Bl v ι', e = .returned v ∧ R V Bl ∧ L.length ≤ Bl.length ∧ rel ι' V v ∧ (∀ b, b < L.length → ι' b = ι b) ∧ (∀ b, Bl.length ≤ b → ι' b = none) ∧
      (∀ b, (blL Bl b).live = true → (blL Bl b).rw = true ∨ (b < L.length ∧ (blL L b).rw = false)) ∧ WR (ambOf ι (blL L) w) ι' (blL Bl) w'

theorem Runs.mono {P : Program} {g : FuncId} {args : List AV} {L : List Blk} {R R' : AV → List Blk → Prop} (h : Runs P g args L R) (hr : ∀ v b, R v b → R' v b) : Runs P g args L R' :=
  ⟨h.1, fun w ι cs h1 h2 h3 => (h.2 w ι cs h1 h2 h3).mono fun _ _ ⟨V, Bl, v, ι', a, b, r⟩ => ⟨V, Bl, v, ι', a, hr _ _ b, r⟩⟩

/-- The blocks behind a call. -/
def upsOf (xs : Ix) (sl : Nat) : Ix → List Blk → List Blk → Nat → List (Nat × Blk)
  | x :: r, l :: L, k :: Bl, j => match x with
    | some x => bif l.rw then (x, k.ren (rb xs sl)) :: upsOf xs sl r L Bl j else upsOf xs sl r L Bl j
    | none => upsOf xs sl r L Bl j
  | [], [], k :: Bl, j => (sl + j, k.ren (rb xs sl)) :: upsOf xs sl [] [] Bl (j + 1)
  | _, _, _, _ => []

/-- The first free number behind a call. -/
def upF : Nat → List Blk → List Blk → Nat
  | f, _, [] => f
  | f, [], _ :: Bl => upF (f + 1) [] Bl
  | f, _ :: L, _ :: Bl => upF f L Bl
theorem upF_eq : ∀ (f : Nat) (L Bl : List Blk), L.length ≤ Bl.length → upF f L Bl = f + (Bl.length - L.length)
  | f, L, [], h => by simp [upF]
  | f, [], _ :: Bl, _ => by simp only [upF]; rw [upF_eq _ [] Bl (by simp)]; simp; omega
  | f, _ :: L, _ :: Bl, h => by simp only [upF]; rw [upF_eq _ L Bl (by simpa using h)]; simp

def callK (P : Program) (g : FuncId) (args : List AV) (bs : Nat → Blk) (sl : Nat) (K : AV → List (Nat × Blk) → Nat → Prop) : Prop :=
  ∃ (xs : Ix) (args' : List AV) (L : List Blk) (R : AV → List Blk → Prop), Runs P g args' L R ∧ subL xs.at args' args ∧ subB xs.at bs xs L ∧ xs.nodup = true ∧
    ∀ V Bl, R V Bl → K (V.ren (rb xs sl)) (upsOf xs sl xs L Bl 0) (upF sl L Bl)

def callOf : Op → Option (Operand × List Operand)
  | .call { callee := .value f, args := as, .. } => some (f, as.toList)
  | _ => none

def bcase (b : Bool) (X Y : Prop) : Prop := match b with
  | true => X
  | false => Y
theorem bcase_mk {b : Bool} {X Y : Prop} (h1 : b = true → X) (h2 : b = false → Y) : bcase b X Y := by
  cases b
  · exact h2 rfl
  · exact h1 rfl

def opK (P : Program) (T : Tab) (o : Oper) (sl : Nat) (ev : Operand → AV) (bs : Nat → Blk) (K : AV → List (Nat × Blk) → Nat → Prop) : Prop :=
  match callOf o.op with
  | some (fo, as) => match ev fo with
    | .fn (.func g) caps => forceL (as.map ev ++ caps) fun args => stop (callK P g args bs sl K)
    | _ => False
  | none => match nilCmp T o.op ev with
    | some (p, len) => stop (∀ nb : Bool, (nb = true → len = 0) → K (nilV p nb) [] sl)
    | none => match mapLk T o.op ev bs with
      | some (q, v, z) => stop (bcase q (K v [] sl) (K z [] sl))
      | none => match aop T o.op ev bs sl with
        | some (p, v, up) => andL p (K v up (bump o.op sl))
        | none => False

def putD (tm : Nat → AV) (dst : Option Tmp) (v : AV) : Nat → AV := match dst with
  | some d => updT tm d v
  | none => tm
def dstOK (n : Nat) (dst : Option Tmp) : Bool := match dst with
  | some d => Nat.blt d n
  | none => true

def onlyIf (b : Bool) (X : Prop) : Prop := match b with
  | true => X
  | false => False

/-- One operation of a region in its order. -/
def oneK (P : Program) (T : Tab) (n : Nat) (o : Oper) (s : St) (K : St → Prop) : Prop :=
  match s with
  | ⟨tm, bs, sl⟩ => onlyIf (dstOK n o.dst) (opK P T o sl (St.ev ⟨tm, bs, sl⟩) bs fun v up f => forceV v fun v => forceU up fun up => forceN f fun f => K ⟨putD tm o.dst v, updL bs up, f⟩)

/-- An operation under a guard. -/
def gsel (b want : Bool) (run skip : Bool → Prop) : Prop := match b, want with
  | true, true => run true
  | false, false => run false
  | true, false => skip true
  | false, true => skip false

/-- A region in the order of its text. -/
abbrev regK (P : Program) (T : Tab) (n : Nat) (ops : List Oper) : List Oper → St → (St → Prop) → Prop
  | [], s, K => K s
  | o :: r, ⟨tm, bs, sl⟩, K => match o.guard with
    | none => oneK P T n o ⟨tm, bs, sl⟩ fun s' => regK P T n ops r s' K
    | some (j, want) => match (ops[j]?).bind (·.dst) with
      | some d =>
        let run : Bool → Prop := fun b => oneK P T n o ⟨updT tm d (.val (.bool b)), bs, sl⟩ fun s' => regK P T n ops r s' K
        let skip : Bool → Prop := fun b => onlyIf (dstOK n o.dst) (regK P T n ops r ⟨putD (updT tm d (.val (.bool b))) o.dst (.tup []), bs, sl⟩ K)
        match tm d with
        | .val (.bool b) => gsel b want run skip
        | .sb b => stop (bcase b (gsel true want run skip) (gsel false want run skip))
        | .tup [] => onlyIf (dstOK n o.dst) (regK P T n ops r ⟨putD tm o.dst (.tup []), bs, sl⟩ K)
        | _ => False
      | none => False

theorem bcase_iff_true {X Y : Prop} (h : bcase true X Y) : X := h
theorem bcase_iff_false {X Y : Prop} (h : bcase false X Y) : Y := h
attribute [irreducible] bcase
theorem bcase_true {X Y : Prop} (h : X) : bcase true X Y := bcase_mk (fun _ => h) (fun e => by cases e)
theorem bcase_false {X Y : Prop} (h : Y) : bcase false X Y := bcase_mk (fun e => by cases e) (fun _ => h)

inductive Ex where
  | normal
  | exit (id : Nat)
  | ret

/-- A state that is written out. -/
structure Sp where
  fr : List (Nat × AV)
  bl : List Blk
def Sp.st (p : Sp) : St := ⟨frL p.fr, blL p.bl, p.bl.length⟩

def subF (ρ : Nat → Option Nat) (tm : Nat → AV) : List (Nat × AV) → Prop
  | [] => True
  | (t, v) :: r => forceV (tm t) (fun y => stop (sub ρ v y)) ∧ subF ρ tm r

/-- The first k blocks keep their names. -/
def keepsIds : Nat → Nat → Ix → Bool
  | 0, _, _ => true
  | k + 1, i, some x :: r => Nat.beq x i && keepsIds k (i + 1) r
  | _, _, _ => false

/-- What may be written stays known as such. -/
def rwOK : List Blk → List Blk → Prop
  | _, [] => True
  | [], k :: ks => (k.live = true → k.rw = true) ∧ rwOK [] ks
  | l :: L, k :: ks => (k.live = true → k.rw = true ∨ l.rw = false) ∧ rwOK L ks

def Le (L0 : List Blk) (p : Sp) (s : St) : Prop :=
  ∃ xs : Ix, keepsIds L0.length 0 xs = true ∧ xs.nodup = true ∧ rwOK L0 p.bl ∧ subF xs.at s.tm p.fr ∧ subB xs.at s.bs xs p.bl

/-- A loop: what holds at each round's head, and what goes down. -/
def loopI (L0 : List Blk) (body : (Ex → St → Prop) → St → Prop) (K : Ex → St → Prop) (s : St) : Prop :=
  ∃ (σ : Type) (S : σ → Sp) (μ : σ → Nat), (∃ x, Le L0 (S x) s) ∧ ∀ x, body (fun e s' => match e with
    | .normal => stop (∃ y, μ y < μ x ∧ Le L0 (S y) s')
    | e => K e s') (S x).st
/-- A loop, round by round. -/
def loopU (body : (Ex → St → Prop) → St → Prop) (K : Ex → St → Prop) : Nat → St → Prop
  | 0, _ => False
  | n + 1, s => body (fun e s' => match e with
    | .normal => loopU body K n s'
    | e => K e s') s
def loopK (L0 : List Blk) (body : (Ex → St → Prop) → St → Prop) (K : Ex → St → Prop) (s : St) : Prop :=
  loopI L0 body K s ∨ ∃ n, loopU body K n s

/-- One value, and the blocks just so. -/
def Det (V : AV) (B : List Blk) : AV → List Blk → Prop := fun V' B' => V' = V ∧ B' = B

def memN (x : Nat) : List Nat → Bool
  | [] => false
  | y :: r => Nat.beq x y || memN x r
def memO (x : Option Nat) (l : List Nat) : Bool := match x with
  | some x => memN x l
  | none => false
def sameO (x y : Option Nat) : Bool := match x, y with
  | some x, some y => Nat.beq x y
  | _, _ => false
def meets : List Nat → List Nat → Bool
  | [], _ => false
  | x :: r, l => memN x l || meets r l

def tmpsOf : List Operand → List Nat
  | [] => []
  | .tmp t :: r => t :: tmpsOf r
  | _ :: r => tmpsOf r
def opds : Op → List Operand
  | .move x => [x]
  | .assign x => [x]
  | .box _ x => [x]
  | .load _ x => [x]
  | .nilCheck x => [x]
  | .unOp _ _ x => [x]
  | .convert _ _ x => [x]
  | .fieldAddr _ x _ => [x]
  | .field _ x _ => [x]
  | .extract x _ => [x]
  | .pick c a b => [c, a, b]
  | .build _ ps => ps.toList.map (·.2)
  | .buildSlice _ _ ps => ps.toList.map (·.2)
  | .store _ a v => [a, v]
  | .binOp _ _ a v _ => [a, v]
  | .makeSlice _ a v => [a, v]
  | .makeMap _ r => r.toList
  | .indexAddr _ a v => [a, v]
  | .index _ a v => [a, v]
  | .lookup _ a v _ => [a, v]
  | .mapUpdate _ m k v => [m, k, v]
  | .makeInterface _ x => [x]
  | .typeAssert x _ _ _ => [x]
  | .makeFunc _ first caps => first.toList ++ caps.toList
  | .slice _ x l h m => x :: (l.toList ++ (h.toList ++ m.toList))
  | .call c => match c.callee with
    | .value f => f :: c.args.toList
    | _ => c.args.toList
  | _ => []
def blkOf : AV → List Nat
  | .ptr b .. => [b]
  | .sl b .. => [b]
  | .map b => [b]
  | _ => []
def blksOf : List AV → List Nat
  | [] => []
  | v :: r => blkOf v ++ blksOf r
/-- The blocks that an operation may look at. -/
def touch (op : Op) (ev : Operand → AV) : List Nat := match op with
  | .load _ x => blkOf (ev x)
  | .store _ x _ => blkOf (ev x)
  | .lookup _ x _ _ => blkOf (ev x)
  | .mapUpdate _ x _ _ => blkOf (ev x)
  | .call c => blksOf (c.args.toList.map ev)
  | _ => []
def forceNs : List Nat → (List Nat → Prop) → Prop
  | [], K => K []
  | x :: r, K => forceNs r fun r => forceN x fun x => K (x :: r)
theorem forceNs_iff : ∀ (l : List Nat) (K : List Nat → Prop), forceNs l K ↔ K l
  | [], K => Iff.rfl
  | x :: r, K => by simp only [forceNs]; rw [forceNs_iff r, forceN_iff]

def mskE (rd : List Nat) (ev : Operand → AV) : Operand → AV := fun x => match x with
  | .tmp t => bif memN t rd then ev (.tmp t) else .dead
  | x => ev x
def mskB (l : List Nat) (bs : Nat → Blk) : Nat → Blk := fun b => bif memN b l then bs b else .gone

/-- What one operation of a region looked at and made. -/
structure Fp where
  rd : List Nat
  dst : Option Nat
  tch : List Nat
  upk : List Nat
  f : Nat
  f' : Nat

def tchX : Ix → List Nat
  | [] => []
  | none :: r => tchX r
  | some x :: r => x :: tchX r
def callD (P : Program) (g : FuncId) (args : List AV) (bs : Nat → Blk) (sl : Nat) (K : List Nat → AV → List (Nat × Blk) → Nat → Prop) : Prop :=
  ∃ (xs : Ix) (args' : List AV) (L : List Blk) (V : AV) (B : List Blk), Runs P g args' L (Det V B) ∧ subL xs.at args' args ∧ subB xs.at bs xs L ∧ xs.nodup = true ∧
    K (tchX xs) (V.ren (rb xs sl)) (upsOf xs sl xs L B 0) (upF sl L B)

def opD (P : Program) (T : Tab) (o : Oper) (sl : Nat) (ev : Operand → AV) (bs : Nat → Blk) (K : List Nat → AV → List (Nat × Blk) → Nat → Prop) : Prop :=
  match callOf o.op with
  | some (fo, as) => match ev fo with
    | .fn (.func g) caps => forceL (as.map ev ++ caps) fun args => stop (callD P g args bs sl K)
    | _ => False
  | none => forceNs (touch o.op ev) fun tch => match aop T o.op ev (mskB tch bs) sl with
    | some (p, v, up) => andL p (K tch v up (bump o.op sl))
    | none => False

/-- A reckoned bool is looked at at once. -/
def forceD (v : AV) (K : AV → Prop) : Prop := match v with
  | .sb b => stop (bcase b (K (.val (.bool true))) (K (.val (.bool false))))
  | v => forceV v K

def oneD (P : Program) (T : Tab) (n : Nat) (gd : List Nat) (o : Oper) (s : St) (K : St → Fp → Prop) : Prop :=
  match s with
  | ⟨tm, bs, sl⟩ => onlyIf (dstOK n o.dst) (forceNs (gd ++ tmpsOf (opds o.op)) fun rd => opD P T o sl (mskE rd (St.ev ⟨tm, bs, sl⟩)) bs fun tch v up f => forceD v fun v => forceU up fun up => forceN f fun f =>
    forceNs tch fun tch => forceNs (up.map (·.1)) fun upk => K ⟨putD tm o.dst v, updL bs up, f⟩ ⟨rd, o.dst, tch, upk, sl, f⟩)

def confl (x y : Fp) : Bool :=
  memO x.dst y.rd || (sameO x.dst y.dst || (memO y.dst x.rd || (meets x.upk y.tch || (meets x.upk y.upk || meets x.tch y.upk))))

def unionN : List Nat → List Nat → List Nat
  | [], l => l
  | x :: r, l => bif memN x (unionN r l) then unionN r l else x :: unionN r l
def ancE (A : List (List Nat)) : List Edge → List Nat
  | [] => []
  | e :: r => bif Region.binds .any e then unionN (e.on :: A.getD e.on []) (ancE A r) else ancE A r
def ancs : List Oper → List (List Nat) → List (List Nat)
  | [], A => A
  | o :: r, A => ancs r (A ++ [ancE A o.after.toList])

/-- The slots of an operation's blocks are its own, and each block that it made is among those that it says. -/
def fpOK (f0 F : Nat) (x : Fp) : Bool := Nat.ble f0 x.f && (Nat.ble x.f x.f' && (Nat.ble x.f' F && ((range' (x.f' - x.f) x.f).all (fun b => memN b x.upk) && x.upk.all (fun b => Nat.blt b x.f'))))
/-- Every two operations whose order matters have a fixed order. -/
def drawOK (ops : List Oper) (fs : List Fp) (f0 F : Nat) : Bool :=
  fs.all (fpOK f0 F) && (
    (List.range ops.length).all (fun j => match ops[j]? with
      | some o => o.after.toList.all fun e => !Region.binds .any e || Nat.blt e.on j
      | none => true) &&
    (List.range fs.length).all (fun j => (List.range j).all fun i => match fs[i]?, fs[j]?, (ancs ops [])[j]? with
      | some x, some y, some l => Nat.ble x.f' y.f && (!confl x y || memN i l)
      | _, _, _ => false))

/-- A region that draws its order, in the order of its text. -/
abbrev drawK (P : Program) (T : Tab) (n : Nat) (ops : List Oper) (f0 : Nat) : List Oper → St → List Fp → (St → Prop) → Prop
  | [], s, acc, K => match s with
    | ⟨tm, bs, sl⟩ => stop (drawOK ops acc f0 sl = true ∧ K ⟨tm, bs, sl⟩)
  | o :: r, s, acc, K => match o.guard with
    | none => oneD P T n [] o s fun s' x => drawK P T n ops f0 r s' (acc ++ [x]) K
    | some (j, want) => match (ops[j]?).bind (·.dst) with
      | some d =>
        let run : Bool → Prop := fun _ => oneD P T n [d] o s fun s' x => drawK P T n ops f0 r s' (acc ++ [x]) K
        let skip : Bool → Prop := fun _ => match s with
          | ⟨tm, bs, sl⟩ => onlyIf (dstOK n o.dst) (drawK P T n ops f0 r ⟨putD tm o.dst (.tup []), bs, sl⟩ (acc ++ [⟨[d], o.dst, [], [], sl, sl⟩]) K)
        match s.tm d with
        | .val (.bool b) => gsel b want run skip
        | .tup [] => skip true
        | _ => False
      | none => False

def isSeq : Code → Bool
  | .seq _ _ => true
  | _ => false
/-- A compound statement, then the rest: each way on by itself, or all ways joined in states that are written out. -/
def seqK (L0 : List Blk) (fx fy : (Ex → St → Prop) → St → Prop) (K : Ex → St → Prop) (s : St) : Prop :=
  fx (fun e s' => match e with
    | .normal => fy K s'
    | .exit id => K (.exit id) s'
    | .ret => K .ret s') s ∨
  ∃ (σ : Type) (S : σ → Sp), fx (fun e s' => match e with
    | .normal => stop (∃ y, Le L0 (S y) s')
    | .exit id => K (.exit id) s'
    | .ret => K .ret s') s ∧ ∀ y, fy K (S y).st

def awp (P : Program) (T : Tab) (n : Nat) (L0 : List Blk) : Code → (Ex → St → Prop) → St → Prop
  | .skip, K, s => K .normal s
  | .region _ ops draw, K, s => match draw with
    | false => regK P T n ops.toList ops.toList s (K .normal)
    | true => match s with
      | ⟨tm, bs, sl⟩ => forceN sl fun sl => drawK P T n ops.toList sl ops.toList ⟨tm, bs, sl⟩ [] (K .normal)
  | .seq a b, K, s => match isSeq a with
    | true => stop (seqK L0 (awp P T n L0 a) (awp P T n L0 b) K s)
    | false => awp P T n L0 a (fun e s' => match e with
      | .normal => awp P T n L0 b K s'
      | .exit id => K (.exit id) s'
      | .ret => K .ret s') s
  | .cond c a b, K, s => match s.ev c with
    | .val (.bool t) => (match t with | true => awp P T n L0 a K s | false => awp P T n L0 b K s)
    | .sb t => stop (bcase t (awp P T n L0 a K s) (awp P T n L0 b K s))
    | _ => False
  | .block id b, K, s => awp P T n L0 b (fun e s' => match e with
    | .normal => K .normal s'
    | .exit id' => bif Nat.beq id' id then K .normal s' else K (.exit id') s'
    | .ret => K .ret s') s
  | .loop b, K, s => stop (loopK L0 (awp P T n L0 b) K s)
  | .exit id, K, s => K (.exit id) s
  | .ret, K, s => K .ret s
  | .label _, K, s => K .normal s
  | _, _, _ => False

def resVals (T : Tab) (s : St) : List ResultVar → Option (List Prop × List AV)
  | [] => some ([], [])
  | .tmp t :: r => match resVals T s r with
    | some (p, vs) => some (p, s.tm t :: vs)
    | none => none
  | .cell a t :: r => match resVals T s r, T.get t, s.tm a with
    | some (p, vs), some d, .ptr b e i j => match readCells (s.bs b) e i j d.sz with
      | some (q, cs) => bif d.k.agg || Nat.beq d.sz 1 then some (q ++ p, mkAgg d.k.agg cs :: vs) else none
      | none => none
    | _, _, _ => none
def mkRes : List AV → AV
  | [v] => v
  | vs => .tup vs

/-- What is asked at a function's end. -/
def retK (T : Tab) (rs : List ResultVar) (L : List Blk) (R : AV → List Blk → Prop) : Ex → St → Prop := fun e s => match e with
  | .exit _ => False
  | _ => match resVals T s rs with
    | some (p, vs) => andL p (forceL vs fun vs => stop (∃ (V : AV) (Bl : List Blk) (xs : Ix), keepsIds L.length 0 xs = true ∧ xs.nodup = true ∧ rwOK L Bl ∧ sub xs.at V (mkRes vs) ∧ subB xs.at s.bs xs Bl ∧ R V Bl))
    | none => False

end Go.Vx

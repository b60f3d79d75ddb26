/- Lemmas of a small executor for the model, and contracts of functions, used for the law that this claim proves. No condition. -/
import Derived.Test.YtpohlkhnilcfnaaDVx13
set_option linter.unusedSimpArgs false
set_option linter.unusedVariables false
/- Short forms for proofs. -/
namespace Go.Vx
variable {P : Program}

def rwOKb : List Blk → List Blk → Bool
  | _, [] => true
  | [], k :: ks => (!k.live || k.rw) && rwOKb [] ks
  | l :: L, k :: ks => (!k.live || (k.rw || !l.rw)) && rwOKb L ks
theorem rwOKb_ok : ∀ (L Bl : List Blk), rwOKb L Bl = true → rwOK L Bl
  | [], [], _ => trivial
  | _ :: _, [], _ => trivial
  | [], k :: ks, h => by
    simp only [rwOKb, Bool.and_eq_true, Bool.or_eq_true, Bool.not_eq_true'] at h
    refine ⟨fun hl => ?_, rwOKb_ok _ _ h.2⟩
    rcases h.1 with h1 | h1
    · rw [hl] at h1; cases h1
    · exact h1
  | l :: L, k :: ks, h => by
    simp only [rwOKb, Bool.and_eq_true, Bool.or_eq_true, Bool.not_eq_true'] at h
    refine ⟨fun hl => ?_, rwOKb_ok _ _ h.2⟩
    rcases h.1 with h1 | h1
    · rw [hl] at h1; cases h1
    · exact h1
def okIx (L0 Bl : List Blk) (xs : Ix) : Bool := keepsIds L0.length 0 xs && (xs.nodup && rwOKb L0 Bl)
theorem okIx_ok {L0 Bl : List Blk} {xs : Ix} (h : okIx L0 Bl xs = true) : keepsIds L0.length 0 xs = true ∧ xs.nodup = true ∧ rwOK L0 Bl := by
  simp only [okIx, Bool.and_eq_true] at h
  exact ⟨h.1, h.2.1, rwOKb_ok _ _ h.2.2⟩

theorem le_mk {L0 : List Blk} {p : Sp} {s : St} (xs : Ix) (h12 : subF xs.at s.tm p.fr ∧ subB xs.at s.bs xs p.bl) (h : okIx L0 p.bl xs = true) : Le L0 p s := by
  obtain ⟨a, b, c⟩ := okIx_ok h
  exact ⟨xs, a, b, c, h12.1, h12.2⟩
theorem ret_mk {L : List Blk} {V : AV} {B : List Blk} {y : AV} {bs : Nat → Blk} (xs : Ix) (h45 : sub xs.at V y ∧ subB xs.at bs xs B) (h : okIx L B xs = true) :
    ∃ (V' : AV) (Bl : List Blk) (xs : Ix), keepsIds L.length 0 xs = true ∧ xs.nodup = true ∧ rwOK L Bl ∧ sub xs.at V' y ∧ subB xs.at bs xs Bl ∧ Det V B V' Bl := by
  obtain ⟨a, b, c⟩ := okIx_ok h
  exact ⟨V, B, xs, a, b, c, h45.1, h45.2, rfl, rfl⟩

theorem call0 {g : FuncId} {args : List AV} {bs : Nat → Blk} {sl : Nat} {K : AV → List (Nat × Blk) → Nat → Prop} {args' : List AV} {V : AV} {B : List Blk} (hR : Runs P g args' [] (Det V B))
    (h1 : subL (Ix.at []) args' args) (hK : K (V.ren (rb [] sl)) (upsOf [] sl [] [] B 0) (upF sl [] B)) : callK P g args bs sl K :=
  call_det [] hR h1 trivial rfl hK
theorem call1 {g : FuncId} {args : List AV} {bs : Nat → Blk} {sl : Nat} {K : AV → List (Nat × Blk) → Nat → Prop} {a : Nat} {k : Blk} {args' : List AV} {V : AV} {B : List Blk} (hR : Runs P g args' [k] (Det V B))
    (h12 : subL (Ix.at [some a]) args' args ∧ subB (Ix.at [some a]) bs [some a] [k]) (hK : K (V.ren (rb [some a] sl)) (upsOf [some a] sl [some a] [k] B 0) (upF sl [k] B)) : callK P g args bs sl K :=
  call_det [some a] hR h12.1 h12.2 rfl hK
theorem call2 {g : FuncId} {args : List AV} {bs : Nat → Blk} {sl : Nat} {K : AV → List (Nat × Blk) → Nat → Prop} {a b : Nat} {k k' : Blk} {args' : List AV} {V : AV} {B : List Blk} (hR : Runs P g args' [k, k'] (Det V B))
    (h12 : subL (Ix.at [some a, some b]) args' args ∧ subB (Ix.at [some a, some b]) bs [some a, some b] [k, k']) (hn : Ix.nodup [some a, some b] = true)
    (hK : K (V.ren (rb [some a, some b] sl)) (upsOf [some a, some b] sl [some a, some b] [k, k'] B 0) (upF sl [k, k'] B)) : callK P g args bs sl K :=
  call_det [some a, some b] hR h12.1 h12.2 hn hK
theorem call3 {g : FuncId} {args : List AV} {bs : Nat → Blk} {sl : Nat} {K : AV → List (Nat × Blk) → Nat → Prop} {a b c : Nat} {k k' k'' : Blk} {args' : List AV} {V : AV} {B : List Blk} (hR : Runs P g args' [k, k', k''] (Det V B))
    (h12 : subL (Ix.at [some a, some b, some c]) args' args ∧ subB (Ix.at [some a, some b, some c]) bs [some a, some b, some c] [k, k', k'']) (hn : Ix.nodup [some a, some b, some c] = true)
    (hK : K (V.ren (rb [some a, some b, some c] sl)) (upsOf [some a, some b, some c] sl [some a, some b, some c] [k, k', k''] B 0) (upF sl [k, k', k''] B)) : callK P g args bs sl K :=
  call_det [some a, some b, some c] hR h12.1 h12.2 hn hK

theorem calld_det {g : FuncId} {args : List AV} {bs : Nat → Blk} {sl : Nat} {K : List Nat → AV → List (Nat × Blk) → Nat → Prop} (xs : Ix) {args' : List AV} {L : List Blk} {V : AV} {B : List Blk} (hR : Runs P g args' L (Det V B))
    (h1 : subL xs.at args' args) (h2 : subB xs.at bs xs L) (h3 : xs.nodup = true) (hK : K (tchX xs) (V.ren (rb xs sl)) (upsOf xs sl xs L B 0) (upF sl L B)) : callD P g args bs sl K :=
  ⟨xs, args', L, V, B, hR, h1, h2, h3, hK⟩
theorem calld0 {g : FuncId} {args : List AV} {bs : Nat → Blk} {sl : Nat} {K : List Nat → AV → List (Nat × Blk) → Nat → Prop} {args' : List AV} {V : AV} {B : List Blk} (hR : Runs P g args' [] (Det V B))
    (h1 : subL (Ix.at []) args' args) (hK : K (tchX []) (V.ren (rb [] sl)) (upsOf [] sl [] [] B 0) (upF sl [] B)) : callD P g args bs sl K :=
  calld_det [] hR h1 trivial rfl hK
theorem calld1 {g : FuncId} {args : List AV} {bs : Nat → Blk} {sl : Nat} {K : List Nat → AV → List (Nat × Blk) → Nat → Prop} {a : Nat} {k : Blk} {args' : List AV} {V : AV} {B : List Blk} (hR : Runs P g args' [k] (Det V B))
    (h12 : subL (Ix.at [some a]) args' args ∧ subB (Ix.at [some a]) bs [some a] [k]) (hK : K (tchX [some a]) (V.ren (rb [some a] sl)) (upsOf [some a] sl [some a] [k] B 0) (upF sl [k] B)) : callD P g args bs sl K :=
  calld_det [some a] hR h12.1 h12.2 rfl hK
theorem calld2 {g : FuncId} {args : List AV} {bs : Nat → Blk} {sl : Nat} {K : List Nat → AV → List (Nat × Blk) → Nat → Prop} {a b : Nat} {k k' : Blk} {args' : List AV} {V : AV} {B : List Blk} (hR : Runs P g args' [k, k'] (Det V B))
    (h12 : subL (Ix.at [some a, some b]) args' args ∧ subB (Ix.at [some a, some b]) bs [some a, some b] [k, k']) (hn : Ix.nodup [some a, some b] = true)
    (hK : K (tchX [some a, some b]) (V.ren (rb [some a, some b] sl)) (upsOf [some a, some b] sl [some a, some b] [k, k'] B 0) (upF sl [k, k'] B)) : callD P g args bs sl K :=
  calld_det [some a, some b] hR h12.1 h12.2 hn hK
theorem calld3 {g : FuncId} {args : List AV} {bs : Nat → Blk} {sl : Nat} {K : List Nat → AV → List (Nat × Blk) → Nat → Prop} {a b c : Nat} {k k' k'' : Blk} {args' : List AV} {V : AV} {B : List Blk} (hR : Runs P g args' [k, k', k''] (Det V B))
    (h12 : subL (Ix.at [some a, some b, some c]) args' args ∧ subB (Ix.at [some a, some b, some c]) bs [some a, some b, some c] [k, k', k'']) (hn : Ix.nodup [some a, some b, some c] = true)
    (hK : K (tchX [some a, some b, some c]) (V.ren (rb [some a, some b, some c] sl)) (upsOf [some a, some b, some c] sl [some a, some b, some c] [k, k', k''] B 0) (upF sl [k, k', k''] B)) : callD P g args bs sl K :=
  calld_det [some a, some b, some c] hR h12.1 h12.2 hn hK

/-- Cells that hold no address. -/
class FlatC {α : Type} (cells : α → List AV) : Prop where
  flat : Flat cells
theorem rw_imp {a b : Bool} (h : (!a || b) = true) : a = true → b = true := by rintro rfl; exact h
theorem row_same {α : Type} {cells : α → List AV} [FlatC cells] {d : α} {ρ : Nat → Option Nat} {rw rw' : Bool} {t e n n' : Nat} {l l' : List α} (h1 : (!rw || rw') = true) (hn : n' = n) (hl : l' = l) :
    BSub ρ (.arr rw t e n (rowF cells d l)) (.arr rw' t e n' (rowF cells d l')) := bsub_row FlatC.flat (rw_imp h1) hn hl
theorem row_ren {α : Type} {cells : α → List AV} [FlatC cells] {d : α} {ρ : Nat → Option Nat} {ρ' : Nat → Nat} {rw rw' : Bool} {t e n n' : Nat} {l l' : List α} (h1 : (!rw || rw') = true) (hn : n' = n) (hl : l' = l) :
    BSub ρ (.arr rw t e n (rowF cells d l)) (.arr rw' t e n' fun i j => (rowF cells d l' i j).ren ρ') := bsub_rowr FlatC.flat (rw_imp h1) hn hl
theorem row_app {α : Type} {cells : α → List AV} [FlatC cells] {d : α} {ρ : Nat → Option Nat} {rw : Bool} {t e n m k : Nat} {l l' L : List α} {c : Nat → Nat → AV} (hL : L = l ++ l') (hm : m = l.length) (hk : k = l'.length) (hn : n = L.length)
    (hc : ∀ i, i < l'.length → ∀ j, j < e → sub ρ (nth (cells (l'.getD i d)) j) (c i j)) :
    BSub ρ (.arr rw t e n (rowF cells d L)) (.arr true t e (m + k) (appF m (rowF cells d l) c)) := by
  subst hL
  exact bsub_app FlatC.flat hm (by simp at hn; omega) hk (fun i hi => hc i (by omega))
theorem var_mk {ρ : Nat → Option Nat} {cs cs' : List AV} (h : subL ρ cs cs') : BSub ρ (.var cs) (.var cs') := ⟨_, rfl, h⟩
/-- A variable, lent to be read alone. -/
abbrev rdV (t : TypeId) (e : Nat) (cs : List AV) : Blk := .arr false t e 1 fun _ j => nth cs j
theorem rd_var {ρ : Nat → Option Nat} {t : TypeId} {cs cs' : List AV} {e : Nat} (h : subL ρ cs cs') (he : e = cs.length) : BSub ρ (rdV t e cs) (.var cs') := by
  refine .inr ⟨rfl, rfl, cs', rfl, fun j hj => ?_⟩
  have key : ∀ (cs cs' : List AV) (j : Nat), subL ρ cs cs' → j < cs.length → ∃ v, cs'[j]? = some v ∧ sub ρ (nth cs j) v := by
    intro cs
    induction cs with
    | nil => intro _ _ _ h; simp at h
    | cons x r ih =>
      intro cs' j h hj
      obtain ⟨y, r', rfl, h1, h2⟩ := h
      cases j with
      | zero => exact ⟨y, rfl, h1⟩
      | succ j =>
        obtain ⟨v, q1, q2⟩ := ih r' j h2 (by simpa using hj)
        exact ⟨v, by simpa using q1, q2⟩
  exact key cs cs' j h (by omega)
theorem rd_rd {ρ : Nat → Option Nat} {t t' : TypeId} {cs cs' : List AV} {e : Nat} (h : subL ρ cs cs') : BSub ρ (rdV t e cs) (rdV t' e cs') := by
  refine .inl ⟨false, t', 1, fun _ j => nth cs' j, ⟨rfl, Nat.le_refl _⟩, (fun h => nomatch h), fun i _ j _ => ?_⟩
  have key : ∀ (cs cs' : List AV) (j : Nat), subL ρ cs cs' → sub ρ (nth cs j) (nth cs' j) := by
    intro cs
    induction cs with
    | nil => intro cs' j h; simp [nth, sub]
    | cons x r ih =>
      intro cs' j h
      obtain ⟨y, r', rfl, h1, h2⟩ := h
      cases j with
      | zero => exact h1
      | succ j => exact ih r' j h2
  exact key cs cs' j h
theorem subL_nil {ρ : Nat → Option Nat} : subL ρ [] [] := rfl
theorem subL_cons {ρ : Nat → Option Nat} {x y : AV} {r r' : List AV} (h : sub ρ x y) (h' : subL ρ r r') : subL ρ (x :: r) (y :: r') := ⟨_, _, rfl, h, h'⟩
theorem sub_agg {ρ : Nat → Option Nat} {cs cs' : List AV} (h : subL ρ cs cs') : sub ρ (.agg cs) (.agg cs') := ⟨_, rfl, h⟩
theorem sub_tup {ρ : Nat → Option Nat} {cs cs' : List AV} (h : subL ρ cs cs') : sub ρ (.tup cs) (.tup cs') := ⟨_, rfl, h⟩
theorem sub_fn {ρ : Nat → Option Nat} {f : Fn} {cs cs' : List AV} (h : subL ρ cs cs') : sub ρ (.fn f cs) (.fn f cs') := ⟨_, rfl, h⟩
theorem sub_dead {ρ : Nat → Option Nat} {v : AV} : sub ρ .dead v := trivial
theorem one_app {α : Type} {cells : α → List AV} {d : α} {ρ : Nat → Option Nat} {e : Nat} {x : α} {c : Nat → Nat → AV} (h : ∀ j, j < e → sub ρ (nth (cells x) j) (c 0 j)) :
    ∀ i, i < [x].length → ∀ j, j < e → sub ρ (nth (cells ([x].getD i d)) j) (c i j) := fun i hi j hj => by
  have : i = 0 := by simpa using hi
  subst this
  exact h j hj
theorem cell0 {p : Nat → Prop} : ∀ j, j < 0 → p j := fun j hj => absurd hj (by omega)
theorem cells_succ {p : Nat → Prop} {n : Nat} (h0 : p 0) (h : ∀ j, j < n → p (j + 1)) : ∀ j, j < n + 1 → p j := fun j hj => by
  cases j with
  | zero => exact h0
  | succ j => exact h j (by omega)
theorem okIx_mk {L B : List Blk} {xs : Ix} (h : okIx L B xs = true) : okIx L B xs = true := h
theorem nodup_mk {xs : Ix} (h : xs.nodup = true) : xs.nodup = true := h
theorem draw_mk {ops : List Oper} {fs : List Fp} {f0 F : Nat} {K : Prop} (h : drawOK ops fs f0 F = true) (k : K) : drawOK ops fs f0 F = true ∧ K := ⟨h, k⟩
theorem loop_inv {L0 : List Blk} {body : (Ex → St → Prop) → St → Prop} {K : Ex → St → Prop} {s : St} {σ : Type} (I : σ → Prop) (S : σ → Sp) (μ : σ → Nat) (x0 : σ) (hI : I x0) (h0 : Le L0 (S x0) s)
    (hr : ∀ x, I x → body (fun e s' => match e with
      | .normal => stop (∃ y : { y // I y }, μ y.1 < μ x ∧ Le L0 (S y.1) s')
      | e => K e s') (S x).st) : loopK L0 body K s :=
  .inl ⟨{ x // I x }, fun x => S x.1, fun x => μ x.1, ⟨⟨x0, hI⟩, h0⟩, fun x => hr x.1 x.2⟩
theorem seq_go {L0 : List Blk} {fx fy : (Ex → St → Prop) → St → Prop} {K : Ex → St → Prop} {s : St} (h : fx (fun e s' => match e with
    | .normal => fy K s'
    | .exit id => K (.exit id) s'
    | .ret => K .ret s') s) : seqK L0 fx fy K s := .inl h
theorem seq_join {L0 : List Blk} {fx fy : (Ex → St → Prop) → St → Prop} {K : Ex → St → Prop} {s : St} {σ : Type} (I : σ → Prop) (S : σ → Sp) (h : fx (fun e s' => match e with
    | .normal => stop (∃ y : { y // I y }, Le L0 (S y.1) s')
    | .exit id => K (.exit id) s'
    | .ret => K .ret s') s) (hr : ∀ y, I y → fy K (S y).st) : seqK L0 fx fy K s := .inr ⟨{ y // I y }, fun y => S y.1, h, fun y => hr y.1 y.2⟩
theorem join_sub {L0 : List Blk} {σ : Type} {S : σ → Sp} {s' : St} (y : σ) (hl : Le L0 (S y) s') : ∃ y, Le L0 (S y) s' := ⟨y, hl⟩
theorem next_sub {L0 : List Blk} {σ : Type} {S : σ → Sp} {μ : σ → Nat} {m : Nat} {s' : St} (y : σ) (hl : Le L0 (S y) s') (h : μ y < m) : ∃ y, μ y < m ∧ Le L0 (S y) s' := ⟨y, h, hl⟩
theorem drop_cons {α : Type} (l : List α) (k : Nat) (d : α) (h : k < l.length) : l.drop k = l.getD k d :: l.drop (k + 1) := by
  rw [List.drop_eq_getElem_cons h, List.getD_eq_getElem?_getD, List.getElem?_eq_getElem h]; rfl
theorem getD_mem {α : Type} (l : List α) (k : Nat) (d : α) (h : k < l.length) : l.getD k d ∈ l := by
  rw [List.getD_eq_getElem?_getD, List.getElem?_eq_getElem h]; simp
theorem virt_mk {rw : Bool} {t e n : Nat} {c : Nat → Nat → AV} (h : n = 0) : virtOK (.arr rw t e n c) := h
theorem row_app1 {α : Type} {cells : α → List AV} [FlatC cells] {d : α} {ρ : Nat → Option Nat} {rw : Bool} {t e n m : Nat} {x : α} {l L : List α} {c : Nat → Nat → AV}
    (hc : ∀ j, j < e → sub ρ (nth (cells x) j) (c 0 j)) (hm : m = l.length) (hL : L = l ++ [x]) (hn : n = m + 1) :
    BSub ρ (.arr rw t e n (rowF cells d L)) (.arr true t e (m + 1) (appF m (rowF cells d l) c)) :=
  row_app hL hm rfl (by subst hL; simp; omega) (one_app hc)
theorem row_app2 {α : Type} {cells : α → List AV} [FlatC cells] {d : α} {ρ : Nat → Option Nat} {rw : Bool} {t e n m : Nat} {x y : α} {l L : List α} {c : Nat → Nat → AV}
    (hc : ∀ j, j < e → sub ρ (nth (cells x) j) (c 0 j)) (hc' : ∀ j, j < e → sub ρ (nth (cells y) j) (c 1 j)) (hm : m = l.length) (hL : L = l ++ [x, y]) (hn : n = m + 2) :
    BSub ρ (.arr rw t e n (rowF cells d L)) (.arr true t e (m + 2) (appF m (rowF cells d l) c)) :=
  row_app hL hm rfl (by subst hL; simp; omega) fun i hi j hj => by
    have : i = 0 ∨ i = 1 := by simp at hi; omega
    rcases this with rfl | rfl
    · exact hc j hj
    · exact hc' j hj
/-- The head of a row. -/
theorem row_pre {α : Type} {cells : α → List AV} [FlatC cells] {d : α} {ρ : Nat → Option Nat} {rw rw' : Bool} {t e n n' : Nat} {l l' : List α} (h1 : (!rw || rw') = true) (hl : ∃ r, l' = l ++ r) (hn : n = l.length) (hn' : n ≤ n') :
    BSub ρ (.arr rw t e n (rowF cells d l)) (.arr rw' t e n' (rowF cells d l')) := by
  obtain ⟨r, rfl⟩ := hl
  subst hn
  refine .inl ⟨rw', t, n', _, ⟨rfl, hn'⟩, fun h => ⟨rw_imp h1 h, rfl⟩, fun i hi j hj => ?_⟩
  have : (l ++ r).getD i d = l.getD i d := by simp [List.getD_eq_getElem?_getD, List.getElem?_append_left hi]
  simp only [rowF, this]
  exact sub_nth FlatC.flat ρ _ j
theorem row_prer {α : Type} {cells : α → List AV} [FlatC cells] {d : α} {ρ : Nat → Option Nat} {ρ' : Nat → Nat} {rw rw' : Bool} {t e n n' : Nat} {l l' : List α} (h1 : (!rw || rw') = true) (hl : ∃ r, l' = l ++ r) (hn : n = l.length) (hn' : n ≤ n') :
    BSub ρ (.arr rw t e n (rowF cells d l)) (.arr rw' t e n' fun i j => (rowF cells d l' i j).ren ρ') := by
  have : (fun i j => (rowF cells d l' i j).ren ρ') = rowF cells d l' := by funext i j; exact ren_row FlatC.flat _ _ _ _ _
  rw [this]; exact row_pre h1 hl hn hn'
/-- The first n elements of the cells are those of a list. -/
def IsRow {α : Type} (cells : α → List AV) (d : α) (e n : Nat) (c : Nat → Nat → AV) (L : List α) : Prop := n = L.length ∧ ∀ i, i < n → ∀ j, j < e → c i j = nth (cells (L.getD i d)) j
theorem isrow_row {α : Type} {cells : α → List AV} {d : α} {e n : Nat} {l : List α} (h : n = l.length) : IsRow cells d e n (rowF cells d l) l := ⟨h, fun _ _ _ _ => rfl⟩
theorem isrow_app {α : Type} {cells : α → List AV} {d : α} {e m k n : Nat} {c c' : Nat → Nat → AV} {l l' : List α} (hn : n = m + k) (h : IsRow cells d e m c l) (h' : IsRow cells d e k c' l') : IsRow cells d e n (appF m c c') (l ++ l') := by
  subst hn
  obtain ⟨rfl, h⟩ := h
  obtain ⟨rfl, h'⟩ := h'
  refine ⟨by simp, fun i hi j hj => ?_⟩
  rcases Nat.lt_or_ge i l.length with hl | hl
  · rw [appF_lt hl, h i hl j hj]
    have : (l ++ l').getD i d = l.getD i d := by simp [List.getD_eq_getElem?_getD, List.getElem?_append_left hl]
    rw [this]
  · rw [appF_ge hl, h' (i - l.length) (by omega) j hj]
    have : (l ++ l').getD i d = l'.getD (i - l.length) d := by simp [List.getD_eq_getElem?_getD, List.getElem?_append_right hl]
    rw [this]
theorem isrow_shift {α : Type} {cells : α → List AV} {d : α} {e n o : Nat} {l : List α} (h : o + n ≤ l.length) : IsRow cells d e n (fun i j => rowF cells d l (o + i) j) ((l.drop o).take n) := by
  refine ⟨by simp; omega, fun i hi j _ => ?_⟩
  have : ((l.drop o).take n).getD i d = l.getD (o + i) d := by
    simp only [List.getD_eq_getElem?_getD, List.getElem?_take_of_lt hi, List.getElem?_drop]
  rw [this]; rfl
theorem isrow_one {α : Type} {cells : α → List AV} {d : α} {e : Nat} {c : Nat → Nat → AV} {x : α} (h : ∀ j, j < e → c 0 j = nth (cells x) j) : IsRow cells d e 1 c [x] :=
  ⟨rfl, fun i hi j hj => by
    have : i = 0 := by omega
    subst this; exact h j hj⟩
theorem isrow_nil {α : Type} {cells : α → List AV} {d : α} {e : Nat} {c : Nat → Nat → AV} : IsRow cells d e 0 c [] := ⟨rfl, fun i hi => absurd hi (by omega)⟩
theorem row_is {α : Type} {cells : α → List AV} [FlatC cells] {d : α} {ρ : Nat → Option Nat} {rw : Bool} {t e n n' : Nat} {L L' : List α} {c : Nat → Nat → AV} (h : IsRow cells d e n' c L') (hL : L' = L) (hn : n = L.length) :
    BSub ρ (.arr rw t e n (rowF cells d L)) (.arr true t e n' c) := by
  subst hL
  obtain ⟨rfl, h⟩ := h
  refine bsub_arr (fun _ => rfl) hn.symm fun i hi j hj => ?_
  rw [h i (by omega) j hj]; exact sub_nth FlatC.flat ρ _ j
theorem row_lit {α : Type} {cells : α → List AV} {d : α} {ρ : Nat → Option Nat} {rw rw' : Bool} {t e n : Nat} {l : List α} {c : Nat → Nat → AV} (h1 : (!rw || rw') = true)
    (hc : ∀ i, i < n → ∀ j, j < e → sub ρ (nth (cells (l.getD i d)) j) (c i j)) : BSub ρ (.arr rw t e n (rowF cells d l)) (.arr rw' t e n c) := bsub_arr (rw_imp h1) rfl hc
theorem bcase_t {b : Bool} {X Y : Prop} (h : b = true) (x : X) : bcase b X Y := by subst h; exact bcase_true x
theorem bcase_f {b : Bool} {X Y : Prop} (h : b = false) (y : Y) : bcase b X Y := by subst h; exact bcase_false y
instance : FlatC intC := ⟨intC_flat⟩
end Go.Vx
